/- Copy; the reference's ahead, At and Clear. -/
import Derived.Test.YtidoilcgdfhfiaaTm5
import Derived.Test.YtidoilcgdfhfiaaShelfC
namespace Go.Proofs.Ytidoilcgdfhfiaa.Fn
open Go Go.Proofs Go.RowKit
set_option linter.unusedVariables false
set_option linter.unusedSimpArgs false
theorem clone_c (mb : Nat) (T : List ((Int × Int) × Int)) (w : World) (A_mb : TM w mb T) : Calls Try.prog 23 #[.map (some mb)] w (Kw.Back fun v w' => (∃ m2, v = .map (some m2) ∧ w.heap.size = m2 ∧ TM w' m2 T) ∧ Below w.heap.size w w') := by
  obtain ⟨es, clock, h1, h2, h3, h4⟩ := A_mb
  refine (AnyW.maps_Clone Try.cloneKey mb es clock w h1).mono fun e w' ⟨he, hw⟩ => ?_
  have hN : Kw.Newo w w.heap.size (.map es clock) w' := ⟨hw, rfl⟩
  exact ⟨_, he, ⟨_, rfl, rfl, es, clock, hN.at_, h2, h3, h4⟩, hN.below (Below.refl _ _) (Nat.le_refl _)⟩

set_option maxRecDepth 100000 in
set_option maxHeartbeats 4000000 in
theorem copy_c (tb mb : Nat) (T : List ((Int × Int) × Int)) (w : World) (A_tb : Kw.At w tb #[.map (some mb)] 52) (A_mb : TM w mb T) (L_mb_tb : mb < tb) : Calls Try.prog 15 #[.pointer (some ⟨tb, 0, none⟩)] w (Kw.Back fun v w' => (∃ t2 m2, v = .pointer (some ⟨t2, 0, none⟩) ∧ m2 < t2 ∧ w.heap.size ≤ m2 ∧ Kw.At w' t2 #[.map (some m2)] 52 ∧ TM w' m2 T) ∧ Below w.heap.size w w') := by
  have HB : Below w.heap.size w w := Below.refl _ _
  refine Kw.enter Try.func15 rfl Try.ntmps15 rfl rfl ?_
  refine Kw.WC_seq (fun K1 hK1 => ?_)
  refine Kw.WC_region [some 2] rfl ?_
  refine Kw.WL_v rfl rfl rfl (Kw.R_assign rfl) ?_
  refine Kw.WL_nil ?_
  refine hK1 _ _ ?_; clear hK1 K1
  refine Kw.WC_seq (fun K2 hK2 => ?_)
  refine Kw.WC_seq (fun K3 hK3 => ?_)
  refine Kw.WC_region [some 3, some 4] rfl ?_
  refine Kw.WL_v rfl rfl rfl (Kw.R_move rfl) ?_
  refine Kw.WL_callc rfl rfl rfl rfl F.cl18 rfl (none_no tb mb _ A_tb) ?_; intro w4 bw4
  replace A_mb := A_mb.call bw4
  replace A_tb := A_tb.call bw4
  replace HB := Kw.Below.then HB (Nat.le_refl _) bw4
  clear bw4
  refine Kw.WL_nil ?_
  refine hK3 _ _ ?_; clear hK3 K3
  refine Kw.WC_false rfl ?_
  refine Kw.WC_skip ?_
  refine hK2 _ _ ?_; clear hK2 K2
  refine Kw.WC_seq (fun K5 hK5 => ?_)
  refine Kw.WC_region [some 5, some 6, some 7, some 8, some 9, some 10, some 11, some 2] rfl ?_
  refine Kw.WL_v rfl rfl rfl (Kw.R_move rfl) ?_
  refine Kw.WL_v rfl rfl rfl (Kw.R_nilok rfl) ?_
  refine Kw.WL_v rfl rfl rfl (Kw.R_fieldAddr (o' := 0) (k := 0) rfl Try.underlying52 rfl F.sz50 rfl) ?_
  refine Kw.WL_v rfl rfl rfl (Kw.R_load1 rfl Try.underlying50 rfl A_tb rfl) ?_
  refine Kw.WL_call rfl rfl rfl rfl F.cl23 rfl (clone_c mb T _ A_mb) ?_; rintro _ w6 ⟨⟨m2, rfl, hm2, A_m2⟩, bw6⟩
  have G_m2 : w.heap.size ≤ m2 := by rw [← hm2]; exact HB.size
  have L_mb_m2 : mb < m2 := by rw [← hm2]; exact A_mb.lt
  replace A_mb := A_mb.call bw6
  have L_tb_m2 : tb < m2 := by rw [← hm2]; exact A_tb.lt
  replace A_tb := A_tb.call bw6
  replace HB := Kw.Below.then HB (Nat.le_refl _) bw6; clear bw6 hm2
  refine Kw.WL_v rfl rfl rfl (Kw.R_build (cs := #[.map (some m2)]) rfl (fun w => by kernel_rfl)) ?_
  refine Kw.WL_box rfl rfl rfl ?_; intro t2 w7 N_t2
  have L_mb_t2 : mb < t2 := (by rw [N_t2.num]; exact A_mb.lt); replace A_mb := A_mb.new N_t2
  have L_tb_t2 := N_t2.ne A_tb; replace A_tb := N_t2.keep A_tb
  have L_m2_t2 : m2 < t2 := (by rw [N_t2.num]; exact A_m2.lt); replace A_m2 := A_m2.new N_t2
  have A_t2 : Kw.At w7 t2 #[.map (some m2)] 52 := N_t2.at_
  have G_t2 := N_t2.ge HB (Nat.le_refl _); replace HB := N_t2.below HB (Nat.le_refl _); clear N_t2
  refine Kw.WL_v rfl rfl rfl (Kw.R_assign rfl) ?_
  refine Kw.WL_nil ?_
  refine hK5 _ _ ?_; clear hK5 K5
  refine Kw.WC_sub (l' := [(2, .pointer (some ⟨t2, 0, none⟩))]) (Kw.Sub.cons rfl Kw.Sub.nil) ?_
  refine Kw.WC_ret ?_
  exact Kw.post_ret1 rfl rfl ⟨_, rfl, ⟨t2, m2, rfl, L_m2_t2, G_m2, A_t2, A_m2⟩, HB⟩
/-- A timer's cells; timers' cells. -/
def cellsT (p : (Int × Int) × Int) : List Value := [.int .i64 p.1.1, .int .i64 p.1.2, .int .i64 p.2]
def flatT (R : List ((Int × Int) × Int)) : List Value := R.flatMap cellsT
theorem flatT_length (R : List ((Int × Int) × Int)) : (flatT R).length = R.length * 3 := by
  induction R with
  | nil => rfl
  | cons k R ih =>
    have e : flatT (k :: R) = .int .i64 k.1.1 :: .int .i64 k.1.2 :: .int .i64 k.2 :: flatT R := rfl
    rw [e, List.length_cons, List.length_cons, List.length_cons, ih, List.length_cons]; omega
theorem flatT_app (R S : List ((Int × Int) × Int)) : flatT (R ++ S) = flatT R ++ flatT S := by unfold flatT; simp
theorem flatT_one (p : (Int × Int) × Int) : flatT [p] = cellsT p := by unfold flatT; simp
theorem flatT_take (R : List ((Int × Int) × Int)) (i : Nat) : (flatT R).take (i * 3) = flatT (R.take i) := by
  induction R generalizing i with
  | nil => simp [flatT]
  | cons k R ih =>
    cases i with
    | zero => simp [flatT]
    | succ i =>
      have e : flatT (k :: R) = .int .i64 k.1.1 :: .int .i64 k.1.2 :: .int .i64 k.2 :: flatT R := rfl
      rw [e, show (i + 1) * 3 = i * 3 + 1 + 1 + 1 by omega, List.take_succ_cons, List.take_succ_cons, List.take_succ_cons, ih, List.take_succ_cons]; rfl
theorem flatT_drop (R : List ((Int × Int) × Int)) (i : Nat) : (flatT R).drop (i * 3) = flatT (R.drop i) := by
  induction R generalizing i with
  | nil => simp [flatT]
  | cons k R ih =>
    cases i with
    | zero => simp
    | succ i =>
      have e : flatT (k :: R) = .int .i64 k.1.1 :: .int .i64 k.1.2 :: .int .i64 k.2 :: flatT R := rfl
      rw [e, show (i + 1) * 3 = i * 3 + 1 + 1 + 1 by omega, List.drop_succ_cons, List.drop_succ_cons, List.drop_succ_cons, ih, List.drop_succ_cons]
theorem flatT_get (R : List ((Int × Int) × Int)) (i : Nat) (h : i < R.length) : (flatT R)[i * 3]? = some (.int .i64 (R[i]'h).1.1) ∧ (flatT R)[i * 3 + 1]? = some (.int .i64 (R[i]'h).1.2) ∧ (flatT R)[i * 3 + 2]? = some (.int .i64 (R[i]'h).2) := by
  have e := flatT_drop R i
  rw [List.drop_eq_getElem_cons h] at e
  have e2 : flatT (R[i] :: R.drop (i + 1)) = .int .i64 (R[i]).1.1 :: .int .i64 (R[i]).1.2 :: .int .i64 (R[i]).2 :: flatT (R.drop (i + 1)) := rfl
  rw [e2] at e
  have g : ∀ j, (flatT R)[i * 3 + j]? = ((flatT R).drop (i * 3))[j]? := fun j => by rw [List.getElem?_drop]
  refine ⟨?_, ?_, ?_⟩
  · have := g 0; rw [Nat.add_zero] at this; rw [this, e]; rfl
  · rw [g 1, e]; rfl
  · rw [g 2, e]; rfl
/-- Which timer is told ahead of another one. -/
def ltT (a b : (Int × Int) × Int) : Prop := a.2 < b.2 ∨ (a.2 = b.2 ∧ (a.1.1 < b.1.1 ∨ (a.1.1 = b.1.1 ∧ a.1.2 < b.1.2)))
instance (a b : (Int × Int) × Int) : Decidable (ltT a b) := by unfold ltT; infer_instance
/-- Timers, as they are read. -/
def RdT (w : World) (v : Value) (R : List ((Int × Int) × Int)) : Prop :=
  ∃ a cap, v = .slice a R.length cap ∧ R.length ≤ cap ∧ cap ≤ maxLen ∧ (R = [] ∨ ∃ g o cur, a = some ⟨g, o, none⟩ ∧ Kw.At w g cur 59 ∧ (cur.toList.drop o).take (R.length * 3) = flatT R)
theorem RdT.own {w : World} {B : Nat} {v : Value} {R : List ((Int × Int) × Int)} (h : Kw.Own w B 59 3 v R.length (flatT R)) : RdT w v R := by
  rcases h.2 with ⟨rfl, hn⟩ | ⟨g, cap, cur, rfl, _, ha, hn, hc, _, ht⟩
  · exact ⟨none, 0, by rw [hn], by omega, by unfold maxLen; omega, .inl (List.eq_nil_of_length_eq_zero hn)⟩
  · exact ⟨_, cap, rfl, hn, hc, .inr ⟨g, 0, cur, rfl, ha, by simpa using ht⟩⟩
theorem rdT_at {cur : Array Value} {o i : Nat} {R : List ((Int × Int) × Int)} (hc : (cur.toList.drop o).take (R.length * 3) = flatT R) (h : i < R.length) :
    o + i * 3 + 3 ≤ cur.size ∧ cur.extract (o + i * 3) (o + i * 3 + 0 + 2) = #[.int .i64 (R[i]'h).1.1, .int .i64 (R[i]'h).1.2] ∧ cur.extract (o + i * 3) (o + i * 3 + 3) = #[.int .i64 (R[i]'h).1.1, .int .i64 (R[i]'h).1.2, .int .i64 (R[i]'h).2] ∧ cur[o + i * 3 + 2]? = some (.int .i64 (R[i]'h).2) := by
  have hg := flatT_get R i h
  rw [← hc, List.getElem?_take, List.getElem?_take, List.getElem?_take, if_pos (by omega), if_pos (by omega), if_pos (by omega), List.getElem?_drop, List.getElem?_drop, List.getElem?_drop, Array.getElem?_toList, Array.getElem?_toList, Array.getElem?_toList] at hg
  obtain ⟨h0, h1, h2⟩ := hg
  have hs := (Array.getElem?_eq_some_iff.1 h2).1
  rw [show o + (i * 3 + 2) = o + i * 3 + 2 by omega] at h2
  rw [show o + (i * 3 + 1) = o + i * 3 + 1 by omega] at h1
  refine ⟨by omega, ?_, ?_, h2⟩
  · apply Array.toList_inj.1
    apply List.ext_getElem?
    intro j
    rw [Array.toList_extract, List.extract_eq_take_drop, List.getElem?_take, List.getElem?_drop, Array.getElem?_toList]
    match j with
    | 0 => rw [if_pos (by omega), Nat.add_zero, h0]; rfl
    | 1 => rw [if_pos (by omega), h1]; rfl
    | j + 2 => rw [if_neg (by omega)]; rfl
  · apply Array.toList_inj.1
    apply List.ext_getElem?
    intro j
    rw [Array.toList_extract, List.extract_eq_take_drop, List.getElem?_take, List.getElem?_drop, Array.getElem?_toList]
    match j with
    | 0 => rw [if_pos (by omega), Nat.add_zero, h0]; rfl
    | 1 => rw [if_pos (by omega), h1]; rfl
    | 2 => rw [if_pos (by omega), h2]; rfl
    | j + 3 => rw [if_neg (by omega)]; rfl
theorem tget_first {R : List ((Int × Int) × Int)} {k : Int × Int} : ∀ {i : Nat} (h : i < R.length), (∀ q ∈ R.take i, q.1 ≠ k) → (R[i]'h).1 = k → Kw.tget R k = some (R[i]'h).2 := by
  induction R with
  | nil => intro i h; exact absurd h (Nat.not_lt_zero _)
  | cons p R ih =>
    intro i h hq hk
    cases i with
    | zero => rw [Kw.tget, if_pos (show p.1 = k from hk)]; rfl
    | succ i =>
      rw [Kw.tget, if_neg (hq p (by simp))]
      exact ih (by simpa using h) (fun q hq' => hq q (by simp [hq'])) hk
theorem take_all {R : List ((Int × Int) × Int)} {Q : (Int × Int) × Int → Prop} {i : Nat} (h : i < R.length) (h1 : ∀ q ∈ R.take i, Q q) (h2 : Q (R[i]'h)) : ∀ q ∈ R.take (i + 1), Q q := fun q hq => by
  rw [List.take_succ_eq_append_getElem h, List.mem_append, List.mem_singleton] at hq
  rcases hq with hq | rfl
  · exact h1 q hq
  · exact h2
/-- The timers without a key. -/
def clearL (R : List ((Int × Int) × Int)) (k : Int × Int) : List ((Int × Int) × Int) := R.filter fun p => decide (p.1 ≠ k)
theorem clearL_yes {R : List ((Int × Int) × Int)} {k : Int × Int} {p : (Int × Int) × Int} (h : p.1 ≠ k) : clearL (R ++ [p]) k = clearL R k ++ [p] := by unfold clearL; simp [h]
theorem clearL_no {R : List ((Int × Int) × Int)} {k : Int × Int} {p : (Int × Int) × Int} (h : p.1 = k) : clearL (R ++ [p]) k = clearL R k := by unfold clearL; simp [h]
theorem clearL_len (R : List ((Int × Int) × Int)) (k : Int × Int) : (clearL R k).length ≤ R.length := List.length_filter_le _ _
theorem take_snoc {R : List ((Int × Int) × Int)} {i : Nat} (h : i < R.length) : R.take (i + 1) = R.take i ++ [R[i]'h] := List.take_succ_eq_append_getElem h

set_option maxRecDepth 100000 in
set_option maxHeartbeats 4000000 in
theorem ahead_c (a b : (Int × Int) × Int) (w : World) : Calls Try.prog 24 #[.agg #[.int .i64 a.1.1, .int .i64 a.1.2, .int .i64 a.2], .agg #[.int .i64 b.1.1, .int .i64 b.1.2, .int .i64 b.2]] w fun e w' => e = .returned (.bool (decide (ltT a b))) ∧ Below w.heap.size w w' := by
  have HB : Below w.heap.size w w := Below.refl _ _
  refine Kw.enter Try.func24 rfl Try.ntmps24 rfl rfl ?_
  refine Kw.WC_seq (fun K1 hK1 => ?_)
  refine Kw.WC_region [some 2, some 3, some 4] rfl ?_
  refine Kw.WL_box rfl rfl rfl ?_; intro ga w2 N_ga
  have A_ga : Kw.At w2 ga #[.int .i64 a.1.1, .int .i64 a.1.2, .int .i64 a.2] 59 := N_ga.at_
  have G_ga := N_ga.ge HB (Nat.le_refl _); replace HB := N_ga.below HB (Nat.le_refl _); clear N_ga
  refine Kw.WL_box rfl rfl rfl ?_; intro gb w3 N_gb
  have L_ga_gb := N_gb.ne A_ga; replace A_ga := N_gb.keep A_ga
  have A_gb : Kw.At w3 gb #[.int .i64 b.1.1, .int .i64 b.1.2, .int .i64 b.2] 59 := N_gb.at_
  have G_gb := N_gb.ge HB (Nat.le_refl _); replace HB := N_gb.below HB (Nat.le_refl _); clear N_gb
  refine Kw.WL_v rfl rfl rfl (Kw.R_assign rfl) ?_
  refine Kw.WL_nil ?_
  refine hK1 _ _ ?_; clear hK1 K1
  refine Kw.WC_seq (fun K4 hK4 => ?_)
  refine Kw.WC_seq (fun K5 hK5 => ?_)
  refine Kw.WC_region [some 5, some 6, some 7, some 8, some 9] rfl ?_
  refine Kw.WL_v rfl rfl rfl (Kw.R_fieldAddr (o' := 2) (k := 0) rfl Try.underlying59 rfl F.sz3 rfl) ?_
  refine Kw.WL_v rfl rfl rfl (Kw.R_load1 rfl Try.underlying3 rfl A_ga rfl) ?_
  refine Kw.WL_v rfl rfl rfl (Kw.R_fieldAddr (o' := 2) (k := 0) rfl Try.underlying59 rfl F.sz3 rfl) ?_
  refine Kw.WL_v rfl rfl rfl (Kw.R_load1 rfl Try.underlying3 rfl A_gb rfl) ?_
  by_cases c6 : (a.2 : Int) = b.2
  ·
    refine Kw.WL_v rfl rfl rfl (Kw.R_nei (z := false) rfl rfl (decide_eq_true c6)) ?_
    refine Kw.WL_nil ?_
    refine hK5 _ _ ?_; clear hK5 K5
    refine Kw.WC_sub (l' := [(2, .pointer (some ⟨ga, 0, none⟩)), (3, .pointer (some ⟨gb, 0, none⟩)), (9, .bool false)]) (Kw.Sub.cons rfl (Kw.Sub.cons rfl (Kw.Sub.cons rfl Kw.Sub.nil))) ?_
    refine Kw.WC_false rfl ?_
    refine Kw.WC_skip ?_
    refine hK4 _ _ ?_; clear hK4 K4
    refine Kw.WC_seq (fun K7 hK7 => ?_)
    refine Kw.WC_seq (fun K8 hK8 => ?_)
    refine Kw.WC_region [some 15, some 16, some 17, some 18, some 19, some 20, some 21] rfl ?_
    refine Kw.WL_v rfl rfl rfl (Kw.R_fieldAddr (o' := 0) (k := 1) rfl Try.underlying59 rfl F.sz28 rfl) ?_
    refine Kw.WL_v rfl rfl rfl (Kw.R_indexAddrA (i := 0) (o' := 0) rfl rfl Try.underlying28 F.sz3 (by decide) (rfl)) ?_
    refine Kw.WL_v rfl rfl rfl (Kw.R_load1 rfl Try.underlying3 rfl A_ga rfl) ?_
    refine Kw.WL_v rfl rfl rfl (Kw.R_fieldAddr (o' := 0) (k := 1) rfl Try.underlying59 rfl F.sz28 rfl) ?_
    refine Kw.WL_v rfl rfl rfl (Kw.R_indexAddrA (i := 0) (o' := 0) rfl rfl Try.underlying28 F.sz3 (by decide) (rfl)) ?_
    refine Kw.WL_v rfl rfl rfl (Kw.R_load1 rfl Try.underlying3 rfl A_gb rfl) ?_
    by_cases c9 : (a.1.1 : Int) = b.1.1
    ·
      refine Kw.WL_v rfl rfl rfl (Kw.R_nei (z := false) rfl rfl (decide_eq_true c9)) ?_
      refine Kw.WL_nil ?_
      refine hK8 _ _ ?_; clear hK8 K8
      refine Kw.WC_sub (l' := [(2, .pointer (some ⟨ga, 0, none⟩)), (3, .pointer (some ⟨gb, 0, none⟩)), (21, .bool false)]) (Kw.Sub.cons rfl (Kw.Sub.cons rfl (Kw.Sub.cons rfl Kw.Sub.nil))) ?_
      refine Kw.WC_false rfl ?_
      refine Kw.WC_skip ?_
      refine hK7 _ _ ?_; clear hK7 K7
      refine Kw.WC_seq (fun K10 hK10 => ?_)
      refine Kw.WC_region [some 29, some 30, some 31, some 32, some 33, some 34, some 35, some 4] rfl ?_
      refine Kw.WL_v rfl rfl rfl (Kw.R_fieldAddr (o' := 0) (k := 1) rfl Try.underlying59 rfl F.sz28 rfl) ?_
      refine Kw.WL_v rfl rfl rfl (Kw.R_indexAddrA (i := 1) (o' := 1) rfl rfl Try.underlying28 F.sz3 (by decide) (rfl)) ?_
      refine Kw.WL_v rfl rfl rfl (Kw.R_load1 rfl Try.underlying3 rfl A_ga rfl) ?_
      refine Kw.WL_v rfl rfl rfl (Kw.R_fieldAddr (o' := 0) (k := 1) rfl Try.underlying59 rfl F.sz28 rfl) ?_
      refine Kw.WL_v rfl rfl rfl (Kw.R_indexAddrA (i := 1) (o' := 1) rfl rfl Try.underlying28 F.sz3 (by decide) (rfl)) ?_
      refine Kw.WL_v rfl rfl rfl (Kw.R_load1 rfl Try.underlying3 rfl A_gb rfl) ?_
      obtain ⟨z, hz⟩ : ∃ z : Bool, decide ((a.1.2 : Int) < b.1.2) = z := ⟨_, rfl⟩
      refine Kw.WL_v rfl rfl rfl (Kw.R_lss rfl rfl hz) ?_
      refine Kw.WL_v rfl rfl rfl (Kw.R_assign rfl) ?_
      refine Kw.WL_nil ?_
      refine hK10 _ _ ?_; clear hK10 K10
      refine Kw.WC_sub (l' := [(4, .bool z)]) (Kw.Sub.cons rfl Kw.Sub.nil) ?_
      refine Kw.WC_ret ?_
      have hr : decide (ltT a b) = z := by rw [← hz]; congr 1; apply propext; unfold ltT; omega
      rw [hr]
      exact Kw.post_ret1 rfl rfl ⟨rfl, HB⟩
    ·
      refine Kw.WL_v rfl rfl rfl (Kw.R_nei (z := true) rfl rfl (decide_eq_false c9)) ?_
      refine Kw.WL_nil ?_
      refine hK8 _ _ ?_; clear hK8 K8
      refine Kw.WC_sub (l' := [(2, .pointer (some ⟨ga, 0, none⟩)), (3, .pointer (some ⟨gb, 0, none⟩)), (21, .bool true)]) (Kw.Sub.cons rfl (Kw.Sub.cons rfl (Kw.Sub.cons rfl Kw.Sub.nil))) ?_
      refine Kw.WC_true rfl ?_
      refine Kw.WC_seq (fun K11 hK11 => ?_)
      refine Kw.WC_region [some 22, some 23, some 24, some 25, some 26, some 27, some 28, some 4] rfl ?_
      refine Kw.WL_v rfl rfl rfl (Kw.R_fieldAddr (o' := 0) (k := 1) rfl Try.underlying59 rfl F.sz28 rfl) ?_
      refine Kw.WL_v rfl rfl rfl (Kw.R_indexAddrA (i := 0) (o' := 0) rfl rfl Try.underlying28 F.sz3 (by decide) (rfl)) ?_
      refine Kw.WL_v rfl rfl rfl (Kw.R_load1 rfl Try.underlying3 rfl A_ga rfl) ?_
      refine Kw.WL_v rfl rfl rfl (Kw.R_fieldAddr (o' := 0) (k := 1) rfl Try.underlying59 rfl F.sz28 rfl) ?_
      refine Kw.WL_v rfl rfl rfl (Kw.R_indexAddrA (i := 0) (o' := 0) rfl rfl Try.underlying28 F.sz3 (by decide) (rfl)) ?_
      refine Kw.WL_v rfl rfl rfl (Kw.R_load1 rfl Try.underlying3 rfl A_gb rfl) ?_
      obtain ⟨z, hz⟩ : ∃ z : Bool, decide ((a.1.1 : Int) < b.1.1) = z := ⟨_, rfl⟩
      refine Kw.WL_v rfl rfl rfl (Kw.R_lss rfl rfl hz) ?_
      refine Kw.WL_v rfl rfl rfl (Kw.R_assign rfl) ?_
      refine Kw.WL_nil ?_
      refine hK11 _ _ ?_; clear hK11 K11
      refine Kw.WC_sub (l' := [(4, .bool z)]) (Kw.Sub.cons rfl Kw.Sub.nil) ?_
      refine Kw.WC_ret ?_
      refine Kw.QR_then ?_; clear hK7 K7
      have hr : decide (ltT a b) = z := by rw [← hz]; congr 1; apply propext; unfold ltT; omega
      rw [hr]
      exact Kw.post_ret1 rfl rfl ⟨rfl, HB⟩
  ·
    refine Kw.WL_v rfl rfl rfl (Kw.R_nei (z := true) rfl rfl (decide_eq_false c6)) ?_
    refine Kw.WL_nil ?_
    refine hK5 _ _ ?_; clear hK5 K5
    refine Kw.WC_sub (l' := [(2, .pointer (some ⟨ga, 0, none⟩)), (3, .pointer (some ⟨gb, 0, none⟩)), (9, .bool true)]) (Kw.Sub.cons rfl (Kw.Sub.cons rfl (Kw.Sub.cons rfl Kw.Sub.nil))) ?_
    refine Kw.WC_true rfl ?_
    refine Kw.WC_seq (fun K12 hK12 => ?_)
    refine Kw.WC_region [some 10, some 11, some 12, some 13, some 14, some 4] rfl ?_
    refine Kw.WL_v rfl rfl rfl (Kw.R_fieldAddr (o' := 2) (k := 0) rfl Try.underlying59 rfl F.sz3 rfl) ?_
    refine Kw.WL_v rfl rfl rfl (Kw.R_load1 rfl Try.underlying3 rfl A_ga rfl) ?_
    refine Kw.WL_v rfl rfl rfl (Kw.R_fieldAddr (o' := 2) (k := 0) rfl Try.underlying59 rfl F.sz3 rfl) ?_
    refine Kw.WL_v rfl rfl rfl (Kw.R_load1 rfl Try.underlying3 rfl A_gb rfl) ?_
    obtain ⟨z, hz⟩ : ∃ z : Bool, decide ((a.2 : Int) < b.2) = z := ⟨_, rfl⟩
    refine Kw.WL_v rfl rfl rfl (Kw.R_lss rfl rfl hz) ?_
    refine Kw.WL_v rfl rfl rfl (Kw.R_assign rfl) ?_
    refine Kw.WL_nil ?_
    refine hK12 _ _ ?_; clear hK12 K12
    refine Kw.WC_sub (l' := [(4, .bool z)]) (Kw.Sub.cons rfl Kw.Sub.nil) ?_
    refine Kw.WC_ret ?_
    refine Kw.QR_then ?_; clear hK4 K4
    have hr : decide (ltT a b) = z := by rw [← hz]; congr 1; apply propext; unfold ltT; omega
    rw [hr]
    exact Kw.post_ret1 rfl rfl ⟨rfl, HB⟩

set_option maxRecDepth 100000 in
set_option maxHeartbeats 4000000 in
theorem refat_c (R : List ((Int × Int) × Int)) (hokR : ∀ p ∈ R, okK p.1) (hsz : R.length ≤ 1000000) (v : Value) (k : Int × Int) (hk : okK k) (u : Int) (f : Bool) (w : World) (S : RdT w v R) (hg : (match Kw.tget R k with | some u => (u, true) | none => (0, false)) = (u, f)) : Calls Try.prog 17 #[v, keyV k] w fun e w' => e = .returned (.tuple #[.int .i64 u, .bool f]) ∧ Below w.heap.size w w' := by
  have HB : Below w.heap.size w w := Below.refl _ _
  obtain ⟨a1, cap1, rfl, _, _, hR⟩ := S
  refine Kw.enter Try.func17 rfl Try.ntmps17 rfl rfl ?_
  refine Kw.WC_seq (fun K1 hK1 => ?_)
  refine Kw.WC_region [some 3, some 4, some 5] rfl ?_
  refine Kw.WL_box rfl rfl rfl ?_; intro gk w2 N_gk
  have A_gk : Kw.At w2 gk #[.int .i64 k.1, .int .i64 k.2] 28 := N_gk.at_
  have G_gk := N_gk.ge HB (Nat.le_refl _); replace HB := N_gk.below HB (Nat.le_refl _); clear N_gk
  refine Kw.WL_v rfl rfl rfl (Kw.R_assign rfl) ?_
  refine Kw.WL_v rfl rfl rfl (Kw.R_assign rfl) ?_
  refine Kw.WL_nil ?_
  refine hK1 _ _ ?_; clear hK1 K1
  refine Kw.WC_seq (fun K3 hK3 => ?_)
  refine Kw.WC_seq (fun K4 hK4 => ?_)
  refine Kw.WC_region [some 6] rfl ?_
  refine Kw.WL_v rfl rfl rfl (Kw.R_assign rfl) ?_
  refine Kw.WL_nil ?_
  refine hK4 _ _ ?_; clear hK4 K4
  refine Kw.WC_block ?_
  refine Kw.WC_loop (ι := Nat) (fun (i : Nat) (ww : World) => (i ≤ R.length ∧ ∀ q ∈ R.take i, q.1 ≠ k) ∧ Kw.At ww gk #[.int .i64 k.1, .int .i64 k.2] 28 ∧ Below w.heap.size w ww) (fun (i : Nat) => [(0, .slice a1 R.length cap1), (3, .pointer (some ⟨gk, 0, none⟩)), (6, .int .i64 (i : Int))]) (fun (i : Nat) => R.length - i) 0 ⟨⟨Nat.zero_le _, fun q hq => by cases hq⟩, A_gk, HB⟩ (Kw.Sub.cons rfl (Kw.Sub.cons rfl (Kw.Sub.cons rfl Kw.Sub.nil))) ?_
  clear A_gk
  clear HB
  rintro i w5 ⟨⟨hi, hq⟩, A_gk, HB⟩
  refine Kw.WC_seq (fun K6 hK6 => ?_)
  refine Kw.WC_seq (fun K7 hK7 => ?_)
  refine Kw.WC_region [some 7, some 8, some 9, some 10] rfl ?_
  refine Kw.WL_v rfl rfl rfl (Kw.R_move rfl) ?_
  refine Kw.WL_v rfl rfl rfl (Kw.R_move rfl) ?_
  refine Kw.WL_v rfl rfl rfl (Kw.R_lenl (n := R.length) Try.underlying38 rfl) ?_
  by_cases c8 : ((i : Int) : Int) < (R.length : Int)
  ·
    refine Kw.WL_v rfl rfl rfl (Kw.R_lss (z := true) rfl rfl (decide_eq_true c8)) ?_
    refine Kw.WL_nil ?_
    refine hK7 _ _ ?_; clear hK7 K7
    refine Kw.WC_true rfl ?_
    refine Kw.WC_skip ?_
    refine hK6 _ _ ?_; clear hK6 K6
    refine Kw.WC_seq (fun K9 hK9 => ?_)
    refine Kw.WC_block ?_
    refine Kw.WC_seq (fun K10 hK10 => ?_)
    refine Kw.WC_still 6 [some 13, some 14, some 15, some 16, some 17, some 18, some 19] rfl (by kernel_rfl) (by kernel_rfl) ?_
    simp only [List.take_succ_cons, List.take_zero, List.drop_succ_cons, List.drop_zero]
    obtain ⟨w11, hww11⟩ : ∃ x : World, x = Go.World.drew w5 := ⟨_, rfl⟩
    rw [← hww11]
    replace A_gk : Kw.At w11 gk #[.int .i64 k.1, .int .i64 k.2] 28 := by rw [hww11]; exact A_gk
    replace HB : Below w.heap.size w w11 := by rw [hww11]; exact HB.drew
    clear hww11
    refine Kw.WS_v rfl rfl rfl (Kw.R_move rfl) ?_
    refine Kw.WS_v rfl rfl rfl (Kw.R_move rfl) ?_
    have hi2 : i < R.length := by omega
    obtain ⟨p, hp⟩ : ∃ p, p = R[i]'hi2 := ⟨_, rfl⟩
    have hpk : okK p.1 := hokR p (by rw [hp]; exact List.getElem_mem hi2)
    rcases hR with rfl | ⟨g1, o1, cur1, rfl, A_1, hc1⟩
    · exact absurd hi2 (Nat.not_lt_zero _)
    have A_g1 := A_1.call HB
    obtain ⟨hz1, hz2, hz3, hz4⟩ := rdT_at hc1 hi2
    rw [← hp] at hz2 hz3 hz4
    refine Kw.WS_v rfl rfl rfl (Kw.R_indexAddrS (i := i) (b := g1) (o := o1) (o' := o1 + i * 3) rfl rfl Try.underlying38 F.sz59 (by omega) (by omega)) ?_
    refine Kw.WS_v rfl rfl rfl (Kw.R_fieldAddr (o' := o1 + i * 3 + 0) (k := 1) rfl Try.underlying59 rfl F.sz28 rfl) ?_
    refine Kw.WS_v rfl rfl rfl (Kw.R_loadN (ds := #[.int .i64 p.1.1, .int .i64 p.1.2]) rfl Try.underlying28 rfl F.sz28 A_g1 (by omega) hz2) ?_
    refine Kw.WS_v rfl rfl rfl (Kw.R_loadW rfl Try.underlying28 rfl (by exact F.sz28) A_gk) ?_
    refine Kw.WS_nil ?_
    by_cases hek : p.1 = k
    ·
      refine Kw.WL_v rfl rfl rfl (Kw.R_eqK (a := p.1) (b := k) (z := true) E28 rfl rfl hpk hk ⟨_, rfl⟩ (decide_eq_true hek)) ?_
      refine Kw.WL_nil ?_
      refine hK10 _ _ ?_; clear hK10 K10
      refine Kw.WC_sub (l' := [(0, .slice (some ⟨g1, o1, none⟩) R.length cap1), (3, .pointer (some ⟨gk, 0, none⟩)), (6, .int .i64 (i : Int)), (19, .bool true)]) (Kw.Sub.cons rfl (Kw.Sub.cons rfl (Kw.Sub.cons rfl (Kw.Sub.cons rfl Kw.Sub.nil)))) ?_
      refine Kw.WC_true rfl ?_
      refine Kw.WC_seq (fun K12 hK12 => ?_)
      refine Kw.WC_region [some 20, some 21, some 22, some 23, some 24, some 4, some 5] rfl ?_
      refine Kw.WL_v rfl rfl rfl (Kw.R_move rfl) ?_
      refine Kw.WL_v rfl rfl rfl (Kw.R_move rfl) ?_
      refine Kw.WL_v rfl rfl rfl (Kw.R_indexAddrS (i := i) (b := g1) (o := o1) (o' := o1 + i * 3) rfl rfl Try.underlying38 F.sz59 (by omega) (by omega)) ?_
      refine Kw.WL_v rfl rfl rfl (Kw.R_fieldAddr (o' := o1 + i * 3 + 2) (k := 0) rfl Try.underlying59 rfl F.sz3 rfl) ?_
      refine Kw.WL_v rfl rfl rfl (Kw.R_load1 (v := .int .i64 p.2) rfl Try.underlying3 rfl A_g1 hz4) ?_
      refine Kw.WL_v rfl rfl rfl (Kw.R_assign rfl) ?_
      refine Kw.WL_v rfl rfl rfl (Kw.R_assign rfl) ?_
      refine Kw.WL_nil ?_
      refine hK12 _ _ ?_; clear hK12 K12
      refine Kw.WC_sub (l' := [(4, .int .i64 p.2), (5, .bool true)]) (Kw.Sub.cons rfl (Kw.Sub.cons rfl Kw.Sub.nil)) ?_
      refine Kw.WC_ret ?_
      refine Kw.QR_block ?_
      refine Kw.QR_then ?_; clear hK9 K9
      refine Kw.QR_then ?_
      refine Kw.QR_block ?_
      refine Kw.QR_then ?_; clear hK3 K3
      have ht := tget_first hi2 hq (by rw [← hp]; exact hek)
      rw [← hp] at ht
      rw [ht] at hg; cases hg
      exact Kw.post_ret2 rfl rfl rfl ⟨rfl, HB⟩
    ·
      refine Kw.WL_v rfl rfl rfl (Kw.R_eqK (a := p.1) (b := k) (z := false) E28 rfl rfl hpk hk ⟨_, rfl⟩ (decide_eq_false hek)) ?_
      refine Kw.WL_nil ?_
      refine hK10 _ _ ?_; clear hK10 K10
      refine Kw.WC_sub (l' := [(0, .slice (some ⟨g1, o1, none⟩) R.length cap1), (3, .pointer (some ⟨gk, 0, none⟩)), (6, .int .i64 (i : Int)), (19, .bool false)]) (Kw.Sub.cons rfl (Kw.Sub.cons rfl (Kw.Sub.cons rfl (Kw.Sub.cons rfl Kw.Sub.nil)))) ?_
      refine Kw.WC_false rfl ?_
      refine Kw.WC_skip ?_
      refine Kw.QN_block ?_
      refine hK9 _ _ ?_; clear hK9 K9
      refine Kw.WC_region [some 11, some 12, some 6] rfl ?_
      refine Kw.WL_v rfl rfl rfl (Kw.R_move rfl) ?_
      refine Kw.WL_v rfl rfl rfl (Kw.R_add (c := ((i + 1 : Nat) : Int)) rfl rfl (by rw [Kw.wrap_i64 (by omega)]; omega)) ?_
      refine Kw.WL_v rfl rfl rfl (Kw.R_assign rfl) ?_
      refine Kw.WL_nil ?_
      refine Kw.QN_round (i + 1) ⟨⟨by omega, take_all hi2 hq (by rw [← hp]; exact hek)⟩, A_gk, HB⟩ (by omega) (Kw.Sub.cons rfl (Kw.Sub.cons rfl (Kw.Sub.cons rfl Kw.Sub.nil)))
  ·
    refine Kw.WL_v rfl rfl rfl (Kw.R_lss (z := false) rfl rfl (decide_eq_false c8)) ?_
    refine Kw.WL_nil ?_
    refine hK7 _ _ ?_; clear hK7 K7
    refine Kw.WC_false rfl ?_
    refine Kw.WC_exit ?_
    refine Kw.QE_then ?_; clear hK6 K6
    refine Kw.QE_then ?_
    refine Kw.QE_here ?_
    refine hK3 _ _ ?_; clear hK3 K3
    refine Kw.WC_sub (l' := []) Kw.Sub.nil ?_
    refine Kw.WC_seq (fun K13 hK13 => ?_)
    refine Kw.WC_region [some 4, some 5] rfl ?_
    refine Kw.WL_v rfl rfl rfl (Kw.R_assign rfl) ?_
    refine Kw.WL_v rfl rfl rfl (Kw.R_assign rfl) ?_
    refine Kw.WL_nil ?_
    refine hK13 _ _ ?_; clear hK13 K13
    refine Kw.WC_ret ?_
    have ht : Kw.tget R k = none := Kw.tget_none (by rw [List.take_of_length_le (by omega)] at hq; exact hq)
    rw [ht] at hg; cases hg
    exact Kw.post_ret2 rfl rfl rfl ⟨rfl, HB⟩

set_option maxRecDepth 100000 in
set_option maxHeartbeats 4000000 in
theorem refclear_c (R : List ((Int × Int) × Int)) (hokR : ∀ p ∈ R, okK p.1) (hsz : R.length ≤ 1000000) (v0 : Value) (k : Int × Int) (hk : okK k) (w : World) (S : RdT w v0 R) : Calls Try.prog 12 #[v0, keyV k] w (Kw.Back fun v w' => Kw.Own w' w.heap.size 59 3 v (clearL R k).length (flatT (clearL R k)) ∧ Below w.heap.size w w') := by
  have HB : Below w.heap.size w w := Below.refl _ _
  obtain ⟨a1, cap1, rfl, _, _, hR⟩ := S
  refine Kw.enter Try.func12 rfl Try.ntmps12 rfl rfl ?_
  refine Kw.WC_seq (fun K1 hK1 => ?_)
  refine Kw.WC_region [some 3, some 4] rfl ?_
  refine Kw.WL_box rfl rfl rfl ?_; intro gk w2 N_gk
  have A_gk : Kw.At w2 gk #[.int .i64 k.1, .int .i64 k.2] 28 := N_gk.at_
  have G_gk := N_gk.ge HB (Nat.le_refl _); replace HB := N_gk.below HB (Nat.le_refl _); clear N_gk
  refine Kw.WL_v rfl rfl rfl (Kw.R_assign rfl) ?_
  refine Kw.WL_nil ?_
  refine hK1 _ _ ?_; clear hK1 K1
  refine Kw.WC_seq (fun K3 hK3 => ?_)
  refine Kw.WC_region [some 5] rfl ?_
  refine Kw.WL_v rfl rfl rfl (Kw.R_assign rfl) ?_
  refine Kw.WL_nil ?_
  refine hK3 _ _ ?_; clear hK3 K3
  refine Kw.WC_seq (fun K4 hK4 => ?_)
  refine Kw.WC_seq (fun K5 hK5 => ?_)
  refine Kw.WC_region [some 6] rfl ?_
  refine Kw.WL_v rfl rfl rfl (Kw.R_assign rfl) ?_
  refine Kw.WL_nil ?_
  refine hK5 _ _ ?_; clear hK5 K5
  refine Kw.WC_block ?_
  refine Kw.WC_loop (ι := Value × Nat) (fun (q : Value × Nat) (ww : World) => match q with | ⟨v, i⟩ => (i ≤ R.length) ∧ Kw.At ww gk #[.int .i64 k.1, .int .i64 k.2] 28 ∧ Kw.Own ww w.heap.size 59 3 v ((clearL (R.take i) k).length) (flatT (clearL (R.take i) k)) ∧ Kw.ob v ≠ some gk ∧ Below w.heap.size w ww) (fun (q : Value × Nat) => match q with | ⟨v, i⟩ => [(0, .slice a1 R.length cap1), (3, .pointer (some ⟨gk, 0, none⟩)), (5, v), (6, .int .i64 (i : Int))]) (fun (q : Value × Nat) => match q with | ⟨v, i⟩ => R.length - i) (.slice none 0 0, 0) ⟨Nat.zero_le _, A_gk, (Kw.Own.nil _ _ _ _), (fun h => by cases h), HB⟩ (Kw.Sub.cons rfl (Kw.Sub.cons rfl (Kw.Sub.cons rfl (Kw.Sub.cons rfl Kw.Sub.nil)))) ?_
  clear A_gk
  clear HB
  rintro ⟨v, i⟩ w6 ⟨hi, A_gk, O_v, D_v_gk, HB⟩
  dsimp only at *
  refine Kw.WC_seq (fun K7 hK7 => ?_)
  refine Kw.WC_seq (fun K8 hK8 => ?_)
  refine Kw.WC_region [some 7, some 8, some 9, some 10] rfl ?_
  refine Kw.WL_v rfl rfl rfl (Kw.R_move rfl) ?_
  refine Kw.WL_v rfl rfl rfl (Kw.R_move rfl) ?_
  refine Kw.WL_v rfl rfl rfl (Kw.R_lenl (n := R.length) Try.underlying38 rfl) ?_
  by_cases c9 : ((i : Int) : Int) < (R.length : Int)
  ·
    refine Kw.WL_v rfl rfl rfl (Kw.R_lss (z := true) rfl rfl (decide_eq_true c9)) ?_
    refine Kw.WL_nil ?_
    refine hK8 _ _ ?_; clear hK8 K8
    refine Kw.WC_true rfl ?_
    refine Kw.WC_skip ?_
    refine hK7 _ _ ?_; clear hK7 K7
    refine Kw.WC_seq (fun K10 hK10 => ?_)
    refine Kw.WC_block ?_
    refine Kw.WC_seq (fun K11 hK11 => ?_)
    refine Kw.WC_still 6 [some 13, some 14, some 15, some 16, some 17, some 18, some 19] rfl (by kernel_rfl) (by kernel_rfl) ?_
    simp only [List.take_succ_cons, List.take_zero, List.drop_succ_cons, List.drop_zero]
    obtain ⟨w12, hww12⟩ : ∃ x : World, x = Go.World.drew w6 := ⟨_, rfl⟩
    rw [← hww12]
    replace A_gk : Kw.At w12 gk #[.int .i64 k.1, .int .i64 k.2] 28 := by rw [hww12]; exact A_gk
    replace O_v := O_v.drew; rw [← hww12] at O_v
    replace HB : Below w.heap.size w w12 := by rw [hww12]; exact HB.drew
    clear hww12
    refine Kw.WS_v rfl rfl rfl (Kw.R_move rfl) ?_
    refine Kw.WS_v rfl rfl rfl (Kw.R_move rfl) ?_
    have hi2 : i < R.length := by omega
    obtain ⟨p, hp⟩ : ∃ p, p = R[i]'hi2 := ⟨_, rfl⟩
    have hpk : okK p.1 := hokR p (by rw [hp]; exact List.getElem_mem hi2)
    rcases hR with rfl | ⟨g1, o1, cur1, rfl, A_1, hc1⟩
    · exact absurd hi2 (Nat.not_lt_zero _)
    have A_g1 := A_1.call HB
    obtain ⟨hz1, hz2, hz3, hz4⟩ := rdT_at hc1 hi2
    rw [← hp] at hz2 hz3 hz4
    refine Kw.WS_v rfl rfl rfl (Kw.R_indexAddrS (i := i) (b := g1) (o := o1) (o' := o1 + i * 3) rfl rfl Try.underlying38 F.sz59 (by omega) (by omega)) ?_
    refine Kw.WS_v rfl rfl rfl (Kw.R_fieldAddr (o' := o1 + i * 3 + 0) (k := 1) rfl Try.underlying59 rfl F.sz28 rfl) ?_
    refine Kw.WS_v rfl rfl rfl (Kw.R_loadN (ds := #[.int .i64 p.1.1, .int .i64 p.1.2]) rfl Try.underlying28 rfl F.sz28 A_g1 (by omega) hz2) ?_
    refine Kw.WS_v rfl rfl rfl (Kw.R_loadW rfl Try.underlying28 rfl (by exact F.sz28) A_gk) ?_
    refine Kw.WS_nil ?_
    by_cases hek : p.1 = k
    ·
      refine Kw.WL_v rfl rfl rfl (Kw.R_neK (a := p.1) (b := k) (z := false) E28 rfl rfl hpk hk ⟨_, rfl⟩ (decide_eq_true hek)) ?_
      refine Kw.WL_nil ?_
      refine hK11 _ _ ?_; clear hK11 K11
      refine Kw.WC_sub (l' := [(0, .slice (some ⟨g1, o1, none⟩) R.length cap1), (3, .pointer (some ⟨gk, 0, none⟩)), (5, v), (6, .int .i64 (i : Int)), (19, .bool false)]) (Kw.Sub.cons rfl (Kw.Sub.cons rfl (Kw.Sub.cons rfl (Kw.Sub.cons rfl (Kw.Sub.cons rfl Kw.Sub.nil))))) ?_
      refine Kw.WC_false rfl ?_
      refine Kw.WC_skip ?_
      refine Kw.QN_block ?_
      refine hK10 _ _ ?_; clear hK10 K10
      refine Kw.WC_region [some 11, some 12, some 6] rfl ?_
      refine Kw.WL_v rfl rfl rfl (Kw.R_move rfl) ?_
      refine Kw.WL_v rfl rfl rfl (Kw.R_add (c := ((i + 1 : Nat) : Int)) rfl rfl (by rw [Kw.wrap_i64 (by omega)]; omega)) ?_
      refine Kw.WL_v rfl rfl rfl (Kw.R_assign rfl) ?_
      refine Kw.WL_nil ?_
      refine Kw.QN_round ((v, i + 1)) ⟨by (try dsimp only); omega, A_gk, (by rw [take_snoc hi2, ← hp, clearL_no hek]; exact O_v), D_v_gk, HB⟩ (by dsimp only; omega) (Kw.Sub.cons rfl (Kw.Sub.cons rfl (Kw.Sub.cons rfl (Kw.Sub.cons rfl Kw.Sub.nil))))
    ·
      refine Kw.WL_v rfl rfl rfl (Kw.R_neK (a := p.1) (b := k) (z := true) E28 rfl rfl hpk hk ⟨_, rfl⟩ (decide_eq_false hek)) ?_
      refine Kw.WL_nil ?_
      refine hK11 _ _ ?_; clear hK11 K11
      refine Kw.WC_sub (l' := [(0, .slice (some ⟨g1, o1, none⟩) R.length cap1), (3, .pointer (some ⟨gk, 0, none⟩)), (5, v), (6, .int .i64 (i : Int)), (19, .bool true)]) (Kw.Sub.cons rfl (Kw.Sub.cons rfl (Kw.Sub.cons rfl (Kw.Sub.cons rfl (Kw.Sub.cons rfl Kw.Sub.nil))))) ?_
      refine Kw.WC_true rfl ?_
      refine Kw.WC_region [some 20, some 21, some 22, some 23, some 24, some 25, some 26, some 5] rfl ?_
      refine Kw.WL_v rfl rfl rfl (Kw.R_move rfl) ?_
      refine Kw.WL_v rfl rfl rfl (Kw.R_move rfl) ?_
      refine Kw.WL_v rfl rfl rfl (Kw.R_move rfl) ?_
      refine Kw.WL_v rfl rfl rfl (Kw.R_indexAddrS (i := i) (b := g1) (o := o1) (o' := o1 + i * 3) rfl rfl Try.underlying38 F.sz59 (by omega) (by omega)) ?_
      refine Kw.WL_v rfl rfl rfl (Kw.R_loadN (ds := #[.int .i64 p.1.1, .int .i64 p.1.2, .int .i64 p.2]) rfl Try.underlying59 rfl F.sz59 A_g1 (by omega) hz3) ?_
      obtain ⟨g25, w13, N_g25⟩ : ∃ b_ w2_, Kw.Newb w12 b_ #[.int .i64 p.1.1, .int .i64 p.1.2, .int .i64 p.2] 59 w2_ := ⟨_, _, rfl, rfl⟩
      refine Kw.WL_v rfl rfl rfl (Kw.R_buildSlice rfl (fun w => by kernel_rfl) N_g25) ?_
      have L_gk_g25 := N_g25.ne A_gk; replace A_gk := N_g25.keep A_gk
      have A_g25 : Kw.At w13 g25 #[.int .i64 p.1.1, .int .i64 p.1.2, .int .i64 p.2] 59 := N_g25.at_
      have D_v_g25 := O_v.ne_new N_g25; replace O_v := O_v.new N_g25
      have G_g25 := N_g25.ge HB (Nat.le_refl _); replace HB := N_g25.below HB (Nat.le_refl _); clear N_g25
      refine Kw.WL_append rfl rfl rfl rfl Try.underlying38 Try.underlying38 (.inr ⟨_, rfl⟩) F.sz59 F.by59 F.ze59 rfl O_v (Kw.News.row (news := [.int .i64 p.1.1, .int .i64 p.1.2, .int .i64 p.2]) A_g25 rfl rfl (by simp [Value.oneCell'])) (by unfold maxLen; have := clearL_len (R.take i) k; rw [List.length_take] at this; omega) (by have := clearL_len (R.take i) k; rw [List.length_take] at this; omega) HB.size ?_; intro v26 w14 O_v26 R_v26
      have D_v26_gk := R_v26.ne A_gk D_v_gk
      replace A_gk := R_v26.keep A_gk D_v_gk
      have D_v26_g25 := R_v26.ne A_g25 D_v_g25
      replace A_g25 := R_v26.keep A_g25 D_v_g25
      replace HB := R_v26.below HB (Nat.le_refl _) (fun g hg => O_v.ge hg); clear R_v26
      replace O_v26 : Kw.Own w14 w.heap.size 59 3 v26 ((clearL (R.take (i + 1)) k).length) (flatT (clearL (R.take (i + 1)) k)) := by rw [take_snoc hi2, ← hp, clearL_yes hek, flatT_app, List.length_append, flatT_one]; exact O_v26
      clear O_v
      clear A_g25
      refine Kw.WL_v rfl rfl rfl (Kw.R_assign rfl) ?_
      refine Kw.WL_nil ?_
      refine Kw.QN_block ?_
      refine hK10 _ _ ?_; clear hK10 K10
      refine Kw.WC_sub (l' := [(0, .slice (some ⟨g1, o1, none⟩) R.length cap1), (3, .pointer (some ⟨gk, 0, none⟩)), (5, v26), (6, .int .i64 (i : Int))]) (Kw.Sub.cons rfl (Kw.Sub.cons rfl (Kw.Sub.cons rfl (Kw.Sub.cons rfl Kw.Sub.nil)))) ?_
      refine Kw.WC_region [some 11, some 12, some 6] rfl ?_
      refine Kw.WL_v rfl rfl rfl (Kw.R_move rfl) ?_
      refine Kw.WL_v rfl rfl rfl (Kw.R_add (c := ((i + 1 : Nat) : Int)) rfl rfl (by rw [Kw.wrap_i64 (by omega)]; omega)) ?_
      refine Kw.WL_v rfl rfl rfl (Kw.R_assign rfl) ?_
      refine Kw.WL_nil ?_
      refine Kw.QN_round ((v26, i + 1)) ⟨by (try dsimp only); omega, A_gk, O_v26, D_v26_gk, HB⟩ (by dsimp only; omega) (Kw.Sub.cons rfl (Kw.Sub.cons rfl (Kw.Sub.cons rfl (Kw.Sub.cons rfl Kw.Sub.nil))))
  ·
    refine Kw.WL_v rfl rfl rfl (Kw.R_lss (z := false) rfl rfl (decide_eq_false c9)) ?_
    refine Kw.WL_nil ?_
    refine hK8 _ _ ?_; clear hK8 K8
    refine Kw.WC_false rfl ?_
    refine Kw.WC_exit ?_
    refine Kw.QE_then ?_; clear hK7 K7
    refine Kw.QE_then ?_
    refine Kw.QE_here ?_
    refine hK4 _ _ ?_; clear hK4 K4
    refine Kw.WC_sub (l' := [(5, v)]) (Kw.Sub.cons rfl Kw.Sub.nil) ?_
    refine Kw.WC_seq (fun K15 hK15 => ?_)
    refine Kw.WC_region [some 27, some 4] rfl ?_
    refine Kw.WL_v rfl rfl rfl (Kw.R_move rfl) ?_
    refine Kw.WL_v rfl rfl rfl (Kw.R_assign rfl) ?_
    refine Kw.WL_nil ?_
    refine hK15 _ _ ?_; clear hK15 K15
    refine Kw.WC_ret ?_
    rw [List.take_of_length_le (by omega)] at O_v
    exact Kw.post_ret1 rfl rfl ⟨_, rfl, O_v, HB⟩
end Go.Proofs.Ytidoilcgdfhfiaa.Fn
