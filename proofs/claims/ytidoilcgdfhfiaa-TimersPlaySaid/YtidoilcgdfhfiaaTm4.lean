/- Due of a table as a contract. -/
import Derived.Test.YtidoilcgdfhfiaaTm3
namespace Go.Proofs.Ytidoilcgdfhfiaa.Fn
open Go Go.Proofs Go.RowKit
set_option linter.unusedVariables false
set_option linter.unusedSimpArgs false
/-- The keys of those that go off, of what has come. -/
def dueK (now : Int) (V : List ((Int × Int) × Int)) : List (Int × Int) := (V.filter fun p => decide (p.2 ≤ now)).map (·.1)
theorem dueK_yes {now : Int} {V : List ((Int × Int) × Int)} {p : (Int × Int) × Int} (h : p.2 ≤ now) : dueK now (V ++ [p]) = dueK now V ++ [p.1] := by unfold dueK; simp [h]
theorem dueK_no {now : Int} {V : List ((Int × Int) × Int)} {p : (Int × Int) × Int} (h : ¬ p.2 ≤ now) : dueK now (V ++ [p]) = dueK now V := by unfold dueK; simp [h]
theorem dueK_len (now : Int) (V : List ((Int × Int) × Int)) : (dueK now V).length ≤ V.length := by unfold dueK; rw [List.length_map]; exact List.length_filter_le _ _
theorem dueK_mem {now : Int} {V : List ((Int × Int) × Int)} {k : Int × Int} : k ∈ dueK now V ↔ ∃ p ∈ V, p.2 ≤ now ∧ p.1 = k := by
  unfold dueK
  rw [List.mem_map]
  constructor
  · rintro ⟨p, hp, rfl⟩
    rw [List.mem_filter, decide_eq_true_eq] at hp
    exact ⟨p, hp.1, hp.2, rfl⟩
  · rintro ⟨p, hp, h, rfl⟩
    exact ⟨p, List.mem_filter.2 ⟨hp, decide_eq_true h⟩, rfl⟩
theorem dueK_perm {now : Int} {V W : List ((Int × Int) × Int)} (h : V.Perm W) : (dueK now V).Perm (dueK now W) := (h.filter _).map _
/-- What Due hands back, and what is left. -/
def IsDue (T : List ((Int × Int) × Int)) (now : Int) (ks : List (Int × Int)) : Prop := ks.Perm (dueK now T) ∧ ks.Pairwise (fun a b => ¬ ltK T b a)
def dropK (T : List ((Int × Int) × Int)) (ks : List (Int × Int)) : List ((Int × Int) × Int) := ks.foldl Kw.tdel T
theorem dropK_snoc (T : List ((Int × Int) × Int)) (ks : List (Int × Int)) (i : Nat) (h : i < ks.length) : Kw.tdel (dropK T (ks.take i)) (ks[i]'h) = dropK T (ks.take (i + 1)) := by
  unfold dropK
  rw [List.take_succ_eq_append_getElem h, List.foldl_append]; rfl
theorem two_cells {cur : Array Value} {ks : List (Int × Int)} {n : Nat} (h : cur.toList.take (n * 2) = flatP ks) (hn : ks.length = n) (i : Nat) (hi : i < ks.length) (hsz : n * 2 ≤ cur.size) : cur.extract (i * 2) (i * 2 + 2) = #[.int .i64 (ks[i]'hi).1, .int .i64 (ks[i]'hi).2] := by
  apply Array.toList_inj.1
  apply List.ext_getElem?
  intro j
  have hg := flatP_get ks i hi
  rw [← h, List.getElem?_take, List.getElem?_take, if_pos (by omega), if_pos (by omega)] at hg
  rw [Array.toList_extract, List.extract_eq_take_drop, List.getElem?_take, List.getElem?_drop]
  match j with
  | 0 => rw [if_pos (by omega), show i * 2 + 0 = 2 * i by omega, hg.1]; rfl
  | 1 => rw [if_pos (by omega), show i * 2 + 1 = 2 * i + 1 by omega, hg.2]; rfl
  | j + 2 => rw [if_neg (by omega)]; rfl

set_option maxRecDepth 100000 in
set_option maxHeartbeats 4000000 in
theorem due_c (T : List ((Int × Int) × Int)) (now : Int) (hsz : T.length ≤ 1000000) (tb mb : Nat) (w : World) (A_tb : Kw.At w tb #[.map (some mb)] 52) (A_mb : TM w mb T) (L_mb_tb : mb < tb) : Calls Try.prog 9 #[.pointer (some ⟨tb, 0, none⟩), .int .i64 now] w (Kw.Back fun v w' => ∃ ks, IsDue T now ks ∧ Kw.Own w' w.heap.size 29 2 v ks.length (flatP ks) ∧ Kw.At w' tb #[.map (some mb)] 52 ∧ TM w' mb (dropK T ks) ∧ Kw.Mut (fun k => k = mb) w w') := by
  have HB : Kw.Mut (fun k => k = mb) w w := Kw.Mut.refl _ _
  refine Kw.enter Try.func9 rfl Try.ntmps9 rfl rfl ?_
  refine Kw.WC_seq (fun K1 hK1 => ?_)
  refine Kw.WC_region [some 2, some 4] rfl ?_
  refine Kw.WL_box rfl rfl rfl ?_; intro bx w2 N_bx
  have L_mb_bx : mb < bx := (by rw [N_bx.num]; exact A_mb.lt); replace A_mb := A_mb.new N_bx
  have L_tb_bx := N_bx.ne A_tb; replace A_tb := N_bx.keep A_tb
  have A_bx : Kw.At w2 bx #[.pointer (some ⟨tb, 0, none⟩)] 25 := N_bx.at_
  have G_bx := HB.ge N_bx; replace HB := HB.new N_bx; clear N_bx
  refine Kw.WL_v rfl rfl rfl (Kw.R_assign rfl) ?_
  refine Kw.WL_nil ?_
  refine hK1 _ _ ?_; clear hK1 K1
  refine Kw.WC_seq (fun K3 hK3 => ?_)
  refine Kw.WC_seq (fun K4 hK4 => ?_)
  refine Kw.WC_region [some 10, some 11] rfl ?_
  refine Kw.WL_v rfl rfl rfl (Kw.R_load1 rfl Try.underlying25 rfl A_bx rfl) ?_
  refine Kw.WL_callc rfl rfl rfl rfl F.cl18 rfl (none_no tb mb _ A_tb) ?_; intro w5 bw5
  replace A_mb := A_mb.call bw5
  replace A_tb := A_tb.call bw5
  replace A_bx := A_bx.call bw5
  replace HB := HB.call bw5
  clear bw5
  refine Kw.WL_nil ?_
  refine hK4 _ _ ?_; clear hK4 K4
  refine Kw.WC_false rfl ?_
  refine Kw.WC_skip ?_
  refine hK3 _ _ ?_; clear hK3 K3
  refine Kw.WC_seq (fun K6 hK6 => ?_)
  refine Kw.WC_region [some 5] rfl ?_
  refine Kw.WL_v rfl rfl rfl (Kw.R_assign rfl) ?_
  refine Kw.WL_nil ?_
  refine hK6 _ _ ?_; clear hK6 K6
  refine Kw.WC_seq (fun K7 hK7 => ?_)
  refine Kw.WC_seq (fun K8 hK8 => ?_)
  refine Kw.WC_region [some 12, some 13, some 14, some 15, some 16] rfl ?_
  refine Kw.WL_v rfl rfl rfl (Kw.R_load1 rfl Try.underlying25 rfl A_bx rfl) ?_
  refine Kw.WL_v rfl rfl rfl (Kw.R_nilok rfl) ?_
  refine Kw.WL_v rfl rfl rfl (Kw.R_fieldAddr (o' := 0) (k := 0) rfl Try.underlying52 rfl F.sz50 rfl) ?_
  refine Kw.WL_v rfl rfl rfl (Kw.R_load1 rfl Try.underlying50 rfl A_tb rfl) ?_
  refine Kw.WL_range rfl rfl rfl Try.underlying50 A_mb ?_; intro r w9 er bw9 A_r
  have L_mb_r : mb < r := (by rw [← er]; exact A_mb.lt); replace A_mb := A_mb.call bw9
  have L_tb_r : tb < r := (by rw [← er]; exact A_tb.lt); replace A_tb := A_tb.call bw9
  have L_bx_r : bx < r := (by rw [← er]; exact A_bx.lt); replace A_bx := A_bx.call bw9
  have G_r : w.heap.size ≤ r := (by rw [← er]; exact HB.size)
  replace HB := HB.call bw9
  clear bw9 er
  refine Kw.WL_nil ?_
  refine hK8 _ _ ?_; clear hK8 K8
  refine Kw.WC_sub (l' := [(1, .int .i64 now), (2, .pointer (some ⟨bx, 0, none⟩)), (5, .slice none 0 0), (16, .pointer (some ⟨r, 0, none⟩))]) (Kw.Sub.cons rfl (Kw.Sub.cons rfl (Kw.Sub.cons rfl (Kw.Sub.cons rfl Kw.Sub.nil)))) ?_
  refine Kw.WC_block ?_
  refine Kw.WC_loop (ι := Value × List ((Int × Int) × Int)) (fun (q : Value × List ((Int × Int) × Int)) (ww : World) => match q with | ⟨v, V⟩ => True ∧ TM ww mb T ∧ Kw.At ww tb #[.map (some mb)] 52 ∧ Kw.At ww bx #[.pointer (some ⟨tb, 0, none⟩)] 25 ∧ It ww r mb T V ∧ Kw.Own ww w.heap.size 29 2 v ((dueK now V).length) (flatP (dueK now V)) ∧ Kw.ob v ≠ some mb ∧ Kw.ob v ≠ some tb ∧ Kw.ob v ≠ some bx ∧ Kw.ob v ≠ some r ∧ Kw.Mut (fun k => k = mb) w ww) (fun (q : Value × List ((Int × Int) × Int)) => match q with | ⟨v, V⟩ => [(1, .int .i64 now), (2, .pointer (some ⟨bx, 0, none⟩)), (5, v), (16, .pointer (some ⟨r, 0, none⟩))]) (fun (q : Value × List ((Int × Int) × Int)) => match q with | ⟨v, V⟩ => T.length - V.length) (.slice none 0 0, []) ⟨trivial, A_mb, A_tb, A_bx, A_r, (Kw.Own.nil _ _ _ _), (fun h => by cases h), (fun h => by cases h), (fun h => by cases h), (fun h => by cases h), HB⟩ (Kw.Sub.cons rfl (Kw.Sub.cons rfl (Kw.Sub.cons rfl (Kw.Sub.cons rfl Kw.Sub.nil)))) ?_
  clear A_mb
  clear A_tb
  clear A_bx
  clear A_r
  clear HB
  rintro ⟨v, V⟩ w10 ⟨-, A_mb, A_tb, A_bx, A_r, O_v, D_v_mb, D_v_tb, D_v_bx, D_v_r, HB⟩
  dsimp only at *
  refine Kw.WC_seq (fun K11 hK11 => ?_)
  refine Kw.WC_region [some 17, some 18] rfl ?_
  refine Kw.WL_next K29 atV_inj rfl rfl rfl A_r (fun hP => ?_) (fun p w12 hpT hpV C_r I_r hen => ?_)
  ·
    refine Kw.WL_v rfl rfl rfl (Kw.R_extract (v := .bool false) rfl rfl) ?_
    refine Kw.WL_nil ?_
    refine hK11 _ _ ?_; clear hK11 K11
    refine Kw.WC_seq (fun K13 hK13 => ?_)
    refine Kw.WC_false rfl ?_
    refine Kw.WC_exit ?_
    refine Kw.QE_then ?_; clear hK13 K13
    refine Kw.QE_then ?_
    refine Kw.QE_here ?_
    refine hK7 _ _ ?_; clear hK7 K7
    refine Kw.WC_seq (fun K14 hK14 => ?_)
    refine Kw.WC_region [some 29, some 30, some 31] rfl ?_
    refine Kw.WL_v rfl rfl rfl (Kw.R_move rfl) ?_
    refine Kw.WL_v rfl rfl rfl (Kw.R_makeFunc1 rfl) ?_
    have hokd : ∀ k ∈ dueK now V, okK k := fun k hk => by
      obtain ⟨p, hp, _, rfl⟩ := dueK_mem.1 hk
      exact A_mb.oks p (hP.mem_iff.1 hp)
    have hdl := dueK_len now V; have hVl := hP.length_eq
    refine Kw.WL_callc rfl rfl rfl rfl F.cl19 rfl (sort_c T v (dueK now V) hokd w.heap.size bx tb mb _ O_v A_bx A_tb A_mb D_v_bx D_v_tb D_v_mb (by omega)) ?_; rintro w15 ⟨ks, hperm, hpw, O_k, hmut⟩
    clear A_r
    replace A_mb := A_mb.mut hmut D_v_mb
    replace A_tb := A_tb.mut hmut D_v_tb
    replace A_bx := A_bx.mut hmut D_v_bx
    replace HB := HB.then_ hmut (fun k hk => .inr (O_v.ge hk))
    have hkl : ks.length = (dueK now V).length := hperm.length_eq
    rw [← hkl] at O_k
    clear O_v; have O_v := O_k; clear O_k hmut
    have hdue : IsDue T now ks := ⟨hperm.trans (dueK_perm hP), hpw⟩
    have hokk : ∀ k ∈ ks, okK k := fun k hk => hokd k (hperm.mem_iff.1 hk)
    refine Kw.WL_nil ?_
    refine hK14 _ _ ?_; clear hK14 K14
    refine Kw.WC_sub (l' := [(2, .pointer (some ⟨bx, 0, none⟩)), (5, v)]) (Kw.Sub.cons rfl (Kw.Sub.cons rfl Kw.Sub.nil)) ?_
    refine Kw.WC_seq (fun K16 hK16 => ?_)
    refine Kw.WC_seq (fun K17 hK17 => ?_)
    refine Kw.WC_region [some 32, some 33, some 34] rfl ?_
    refine Kw.WL_v rfl rfl rfl (Kw.R_move rfl) ?_
    refine Kw.WL_v rfl rfl rfl (Kw.R_leno Try.underlying32 rfl O_v) ?_
    refine Kw.WL_v rfl rfl rfl (Kw.R_move rfl) ?_
    refine Kw.WL_nil ?_
    refine hK17 _ _ ?_; clear hK17 K17
    refine Kw.WC_block ?_
    refine Kw.WC_loop (ι := Nat) (fun (i : Nat) (ww : World) => (i ≤ ks.length) ∧ TM ww mb (dropK T (ks.take i)) ∧ Kw.At ww tb #[.map (some mb)] 52 ∧ Kw.At ww bx #[.pointer (some ⟨tb, 0, none⟩)] 25 ∧ Kw.Own ww w.heap.size 29 2 v ks.length (flatP ks) ∧ Kw.Mut (fun k => k = mb) w ww) (fun (i : Nat) => [(2, .pointer (some ⟨bx, 0, none⟩)), (5, v), (32, v), (33, .int .i64 ((ks.length : Nat) : Int)), (34, .int .i64 (i : Int))]) (fun (i : Nat) => ks.length - i) 0 ⟨Nat.zero_le _, A_mb, A_tb, A_bx, O_v, HB⟩ (Kw.Sub.cons rfl (Kw.Sub.cons rfl (Kw.Sub.cons rfl (Kw.Sub.cons rfl (Kw.Sub.cons rfl Kw.Sub.nil))))) ?_
    clear A_mb
    clear A_tb
    clear A_bx
    clear O_v
    clear HB
    rintro i w18 ⟨hi, A_mb, A_tb, A_bx, O_v, HB⟩
    refine Kw.WC_seq (fun K19 hK19 => ?_)
    refine Kw.WC_region [some 35] rfl ?_
    by_cases c20 : ((i : Int) : Int) < ((ks.length : Nat) : Int)
    ·
      refine Kw.WL_v rfl rfl rfl (Kw.R_lss (z := true) rfl rfl (decide_eq_true c20)) ?_
      refine Kw.WL_nil ?_
      refine hK19 _ _ ?_; clear hK19 K19
      refine Kw.WC_seq (fun K21 hK21 => ?_)
      refine Kw.WC_true rfl ?_
      refine Kw.WC_skip ?_
      refine hK21 _ _ ?_; clear hK21 K21
      refine Kw.WC_seq (fun K22 hK22 => ?_)
      refine Kw.WC_block ?_
      refine Kw.WC_seq (fun K23 hK23 => ?_)
      refine Kw.WC_region [some 36, some 37, some 9, none] rfl ?_
      have hi2 : i < ks.length := by omega
      obtain ⟨g, capg, cur, rfl, hgB, A_g, hgc, hgs, hgt⟩ := O_v.open (by omega)
      obtain ⟨k, hk⟩ : ∃ k, k = ks[i]'hi2 := ⟨_, rfl⟩
      have hkok : okK k := hokk k (by rw [hk]; exact List.getElem_mem hi2)
      refine Kw.WL_v rfl rfl rfl (Kw.R_indexAddrS (i := i) (o' := i * 2) rfl rfl Try.underlying32 F.sz29 (by omega) (by omega)) ?_
      refine Kw.WL_v rfl rfl rfl (Kw.R_loadN (ds := #[.int .i64 k.1, .int .i64 k.2]) rfl Try.underlying29 rfl F.sz29 A_g (by omega) (by rw [hk]; exact two_cells hgt rfl i hi2 (by omega))) ?_
      clear A_g
      refine Kw.WL_alloc rfl rfl F.zr29 ?_; intro g9 w24 N_g9
      have L_mb_g9 : mb < g9 := (by rw [N_g9.num]; exact A_mb.lt); replace A_mb := A_mb.new N_g9
      have L_tb_g9 := N_g9.ne A_tb; replace A_tb := N_g9.keep A_tb
      have L_bx_g9 := N_g9.ne A_bx; replace A_bx := N_g9.keep A_bx
      have A_g9 : Kw.At w24 g9 F.Z29 29 := N_g9.at_
      have D_v_g9 := O_v.ne_new N_g9; replace O_v := O_v.new N_g9
      have G_g9 := HB.ge N_g9; replace HB := HB.new N_g9; clear N_g9
      refine Kw.WL_storeW rfl rfl rfl (by exact F.sz29) A_g9 rfl rfl ?_; intro w25 M_g9
      replace A_mb := A_mb.chg M_g9.chg (Nat.ne_of_lt L_mb_g9)
      replace A_tb := M_g9.keep A_tb (Nat.ne_of_lt L_tb_g9)
      replace A_bx := M_g9.keep A_bx (Nat.ne_of_lt L_bx_g9)
      replace A_g9 : Kw.At w25 g9 #[.int .i64 k.1, .int .i64 k.2] 29 := M_g9.at_ A_g9
      replace O_v := O_v.wrote M_g9 D_v_g9
      replace HB := HB.chg M_g9.chg (.inr G_g9); clear M_g9
      refine Kw.WL_nil ?_
      refine hK23 _ _ ?_; clear hK23 K23
      refine Kw.WC_still 5 [some 38, some 39, some 40, some 41, some 42, none] rfl (by kernel_rfl) (by kernel_rfl) ?_
      simp only [List.take_succ_cons, List.take_zero, List.drop_succ_cons, List.drop_zero]
      obtain ⟨w26, hww26⟩ : ∃ x : World, x = Go.World.drew w25 := ⟨_, rfl⟩
      rw [← hww26]
      replace A_mb : TM w26 mb (dropK T (ks.take i)) := by rw [hww26]; exact A_mb
      replace A_tb : Kw.At w26 tb #[.map (some mb)] 52 := by rw [hww26]; exact A_tb
      replace A_bx : Kw.At w26 bx #[.pointer (some ⟨tb, 0, none⟩)] 25 := by rw [hww26]; exact A_bx
      replace A_g9 : Kw.At w26 g9 #[.int .i64 k.1, .int .i64 k.2] 29 := by rw [hww26]; exact A_g9
      replace O_v := O_v.drew; rw [← hww26] at O_v
      replace HB : Kw.Mut (fun k => k = mb) w w26 := by rw [hww26]; exact HB.drew
      clear hww26
      refine Kw.WS_v rfl rfl rfl (Kw.R_load1 rfl Try.underlying25 rfl A_bx rfl) ?_
      refine Kw.WS_v rfl rfl rfl (Kw.R_nilok rfl) ?_
      refine Kw.WS_v rfl rfl rfl (Kw.R_fieldAddr (o' := 0) (k := 0) rfl Try.underlying52 rfl F.sz50 rfl) ?_
      refine Kw.WS_v rfl rfl rfl (Kw.R_load1 rfl Try.underlying50 rfl A_tb rfl) ?_
      refine Kw.WS_v rfl rfl rfl (Kw.R_loadW rfl Try.underlying29 rfl (by exact F.sz29) A_g9) ?_
      refine Kw.WS_nil ?_
      refine Kw.WL_delete (a := k) K29 rfl rfl rfl rfl Try.underlying50 A_mb hkok ?_; intro w27 C_mb B_mb; clear A_mb; have A_mb := B_mb; clear B_mb
      replace A_tb := A_tb.chg C_mb (Nat.ne_of_gt L_mb_tb)
      replace A_bx := A_bx.chg C_mb (Nat.ne_of_gt L_mb_bx)
      replace A_g9 := A_g9.chg C_mb (Nat.ne_of_gt L_mb_g9)
      replace O_v := C_mb.keepO O_v D_v_mb
      replace HB := HB.chg C_mb (.inl rfl)
      clear C_mb
      refine Kw.WL_nil ?_
      refine Kw.QN_block ?_
      refine hK22 _ _ ?_; clear hK22 K22
      refine Kw.WC_sub (l' := [(2, .pointer (some ⟨bx, 0, none⟩)), (5, .slice (some ⟨g, 0, none⟩) ks.length capg), (32, .slice (some ⟨g, 0, none⟩) ks.length capg), (33, .int .i64 ((ks.length : Nat) : Int)), (34, .int .i64 (i : Int))]) (Kw.Sub.cons rfl (Kw.Sub.cons rfl (Kw.Sub.cons rfl (Kw.Sub.cons rfl (Kw.Sub.cons rfl Kw.Sub.nil))))) ?_
      refine Kw.WC_region [some 43, some 34] rfl ?_
      refine Kw.WL_v rfl rfl rfl (Kw.R_add (c := ((i + 1 : Nat) : Int)) rfl rfl (by rw [Kw.wrap_i64 (by omega)]; omega)) ?_
      refine Kw.WL_v rfl rfl rfl (Kw.R_move rfl) ?_
      refine Kw.WL_nil ?_
      refine Kw.QN_round (i + 1) ⟨by omega, (by rw [← dropK_snoc T ks i hi2, ← hk]; exact A_mb), A_tb, A_bx, O_v, HB⟩ (by omega) (Kw.Sub.cons rfl (Kw.Sub.cons rfl (Kw.Sub.cons rfl (Kw.Sub.cons rfl (Kw.Sub.cons rfl Kw.Sub.nil)))))
    ·
      refine Kw.WL_v rfl rfl rfl (Kw.R_lss (z := false) rfl rfl (decide_eq_false c20)) ?_
      refine Kw.WL_nil ?_
      refine hK19 _ _ ?_; clear hK19 K19
      refine Kw.WC_seq (fun K28 hK28 => ?_)
      refine Kw.WC_false rfl ?_
      refine Kw.WC_exit ?_
      refine Kw.QE_then ?_; clear hK28 K28
      refine Kw.QE_then ?_
      refine Kw.QE_here ?_
      refine hK16 _ _ ?_; clear hK16 K16
      refine Kw.WC_seq (fun K29 hK29 => ?_)
      refine Kw.WC_region [some 44, some 4] rfl ?_
      refine Kw.WL_v rfl rfl rfl (Kw.R_move rfl) ?_
      refine Kw.WL_v rfl rfl rfl (Kw.R_assign rfl) ?_
      refine Kw.WL_nil ?_
      refine hK29 _ _ ?_; clear hK29 K29
      refine Kw.WC_sub (l' := [(4, v)]) (Kw.Sub.cons rfl Kw.Sub.nil) ?_
      refine Kw.WC_ret ?_
      obtain rfl : i = ks.length := by omega
      rw [List.take_length] at A_mb
      exact Kw.post_ret1 rfl rfl ⟨_, rfl, ks, hdue, O_v, A_tb, A_mb, HB⟩
  ·
    replace A_mb := A_mb.chg C_r (Nat.ne_of_lt L_mb_r)
    replace A_tb := A_tb.chg C_r (Nat.ne_of_lt L_tb_r)
    replace A_bx := A_bx.chg C_r (Nat.ne_of_lt L_bx_r)
    replace O_v := C_r.keepO O_v D_v_r
    replace HB := HB.chg C_r (.inr G_r)
    clear A_r; have A_r := I_r; clear I_r C_r
    have hlen := A_r.len; rw [List.length_append] at hlen; have hlen1 : ([p] : List ((Int × Int) × Int)).length = 1 := rfl; have hdl1 := dueK_len now V
    refine Kw.WL_v rfl rfl rfl (Kw.R_extract (v := .bool true) rfl rfl) ?_
    refine Kw.WL_nil ?_
    refine hK11 _ _ ?_; clear hK11 K11
    refine Kw.WC_seq (fun K30 hK30 => ?_)
    refine Kw.WC_true rfl ?_
    refine Kw.WC_skip ?_
    refine hK30 _ _ ?_; clear hK30 K30
    refine Kw.WC_block ?_
    refine Kw.WC_seq (fun K31 hK31 => ?_)
    refine Kw.WC_region [some 19, some 20, some 21, some 6, none, some 7] rfl ?_
    refine Kw.WL_v rfl rfl rfl (Kw.R_entry (v := .tuple #[.agg #[.int .i64 p.1.1, .int .i64 p.1.2], .int .i64 p.2]) rfl hen) ?_
    refine Kw.WL_v rfl rfl rfl (Kw.R_extract (v := .agg #[.int .i64 p.1.1, .int .i64 p.1.2]) rfl rfl) ?_
    refine Kw.WL_v rfl rfl rfl (Kw.R_extract (v := .int .i64 p.2) rfl rfl) ?_
    refine Kw.WL_alloc rfl rfl F.zr29 ?_; intro g6 w32 N_g6
    have L_mb_g6 : mb < g6 := (by rw [N_g6.num]; exact A_mb.lt); replace A_mb := A_mb.new N_g6
    have L_tb_g6 := N_g6.ne A_tb; replace A_tb := N_g6.keep A_tb
    have L_bx_g6 := N_g6.ne A_bx; replace A_bx := N_g6.keep A_bx
    have L_r_g6 : r < g6 := (by rw [N_g6.num]; exact A_r.lt); replace A_r := A_r.new N_g6
    have A_g6 : Kw.At w32 g6 F.Z29 29 := N_g6.at_
    have D_v_g6 := O_v.ne_new N_g6; replace O_v := O_v.new N_g6
    have G_g6 := HB.ge N_g6; replace HB := HB.new N_g6; clear N_g6
    refine Kw.WL_storeW rfl rfl rfl (by exact F.sz29) A_g6 rfl rfl ?_; intro w33 M_g6
    replace A_mb := A_mb.chg M_g6.chg (Nat.ne_of_lt L_mb_g6)
    replace A_tb := M_g6.keep A_tb (Nat.ne_of_lt L_tb_g6)
    replace A_bx := M_g6.keep A_bx (Nat.ne_of_lt L_bx_g6)
    replace A_r := A_r.chg M_g6.chg (Nat.ne_of_lt L_mb_g6) (Nat.ne_of_lt L_r_g6)
    replace A_g6 : Kw.At w33 g6 #[.int .i64 p.1.1, .int .i64 p.1.2] 29 := M_g6.at_ A_g6
    replace O_v := O_v.wrote M_g6 D_v_g6
    replace HB := HB.chg M_g6.chg (.inr G_g6); clear M_g6
    refine Kw.WL_v rfl rfl rfl (Kw.R_assign rfl) ?_
    refine Kw.WL_nil ?_
    refine hK31 _ _ ?_; clear hK31 K31
    refine Kw.WC_seq (fun K34 hK34 => ?_)
    refine Kw.WC_region [some 22, some 23, some 24] rfl ?_
    refine Kw.WL_v rfl rfl rfl (Kw.R_move rfl) ?_
    refine Kw.WL_v rfl rfl rfl (Kw.R_move rfl) ?_
    by_cases c35 : (p.2 : Int) ≤ now
    ·
      refine Kw.WL_v rfl rfl rfl (Kw.R_leq (z := true) rfl rfl (decide_eq_true c35)) ?_
      have c22 : p.2 ≤ now := by assumption
      refine Kw.WL_nil ?_
      refine hK34 _ _ ?_; clear hK34 K34
      refine Kw.WC_sub (l' := [(1, .int .i64 now), (2, .pointer (some ⟨bx, 0, none⟩)), (5, v), (16, .pointer (some ⟨r, 0, none⟩)), (6, .pointer (some ⟨g6, 0, none⟩)), (24, .bool true)]) (Kw.Sub.cons rfl (Kw.Sub.cons rfl (Kw.Sub.cons rfl (Kw.Sub.cons rfl (Kw.Sub.cons rfl (Kw.Sub.cons rfl Kw.Sub.nil)))))) ?_
      refine Kw.WC_true rfl ?_
      refine Kw.WC_region [some 25, some 26, some 27, some 28, some 5] rfl ?_
      refine Kw.WL_v rfl rfl rfl (Kw.R_move rfl) ?_
      refine Kw.WL_v rfl rfl rfl (Kw.R_loadW rfl Try.underlying29 rfl (by exact F.sz29) A_g6) ?_
      obtain ⟨g27, w36, N_g27⟩ : ∃ b_ w2_, Kw.Newb w33 b_ #[.int .i64 p.1.1, .int .i64 p.1.2] 29 w2_ := ⟨_, _, rfl, rfl⟩
      refine Kw.WL_v rfl rfl rfl (Kw.R_buildSlice rfl (fun w => by kernel_rfl) N_g27) ?_
      have L_mb_g27 : mb < g27 := (by rw [N_g27.num]; exact A_mb.lt); replace A_mb := A_mb.new N_g27
      have L_tb_g27 := N_g27.ne A_tb; replace A_tb := N_g27.keep A_tb
      have L_bx_g27 := N_g27.ne A_bx; replace A_bx := N_g27.keep A_bx
      have L_r_g27 : r < g27 := (by rw [N_g27.num]; exact A_r.lt); replace A_r := A_r.new N_g27
      have L_g6_g27 := N_g27.ne A_g6; replace A_g6 := N_g27.keep A_g6
      have A_g27 : Kw.At w36 g27 #[.int .i64 p.1.1, .int .i64 p.1.2] 29 := N_g27.at_
      have D_v_g27 := O_v.ne_new N_g27; replace O_v := O_v.new N_g27
      have G_g27 := HB.ge N_g27; replace HB := HB.new N_g27; clear N_g27
      refine Kw.WL_append rfl rfl rfl rfl Try.underlying32 Try.underlying32 (.inr ⟨_, rfl⟩) F.sz29 F.by29 F.ze29 rfl O_v (Kw.News.row (news := [.int .i64 p.1.1, .int .i64 p.1.2]) A_g27 rfl rfl (by simp [Value.oneCell'])) (by unfold maxLen; have := dueK_len now V; omega) (by omega) HB.size ?_; intro v28 w37 O_v28 R_v28
      have D_v28_mb := R_v28.neLt A_mb.lt D_v_mb
      replace A_mb := A_mb.grew R_v28 D_v_mb
      have D_v28_tb := R_v28.ne A_tb D_v_tb
      replace A_tb := R_v28.keep A_tb D_v_tb
      have D_v28_bx := R_v28.ne A_bx D_v_bx
      replace A_bx := R_v28.keep A_bx D_v_bx
      have D_v28_r := R_v28.neLt A_r.lt D_v_r
      replace A_r := A_r.grew R_v28 D_v_mb D_v_r
      have D_v28_g6 := R_v28.ne A_g6 D_v_g6
      replace A_g6 := R_v28.keep A_g6 D_v_g6
      have D_v28_g27 := R_v28.ne A_g27 D_v_g27
      replace A_g27 := R_v28.keep A_g27 D_v_g27
      replace HB := HB.grew R_v28 (fun g hg => .inr (O_v.ge hg)); clear R_v28
      replace O_v28 : Kw.Own w37 w.heap.size 29 2 v28 ((dueK now (V ++ [p])).length) (flatP (dueK now (V ++ [p]))) := by rw [dueK_yes c22, flatP_snoc, List.length_append]; exact O_v28
      clear O_v
      clear A_g27
      refine Kw.WL_v rfl rfl rfl (Kw.R_assign rfl) ?_
      refine Kw.WL_nil ?_
      refine Kw.QN_block ?_
      refine Kw.QN_round ((v28, V ++ [p])) ⟨trivial, A_mb, A_tb, A_bx, A_r, O_v28, D_v28_mb, D_v28_tb, D_v28_bx, D_v28_r, HB⟩ (by dsimp only; rw [List.length_append]; omega) (Kw.Sub.cons rfl (Kw.Sub.cons rfl (Kw.Sub.cons rfl (Kw.Sub.cons rfl Kw.Sub.nil))))
    ·
      refine Kw.WL_v rfl rfl rfl (Kw.R_leq (z := false) rfl rfl (decide_eq_false c35)) ?_
      have c22 : ¬ p.2 ≤ now := by assumption
      refine Kw.WL_nil ?_
      refine hK34 _ _ ?_; clear hK34 K34
      refine Kw.WC_sub (l' := [(1, .int .i64 now), (2, .pointer (some ⟨bx, 0, none⟩)), (5, v), (16, .pointer (some ⟨r, 0, none⟩)), (6, .pointer (some ⟨g6, 0, none⟩)), (24, .bool false)]) (Kw.Sub.cons rfl (Kw.Sub.cons rfl (Kw.Sub.cons rfl (Kw.Sub.cons rfl (Kw.Sub.cons rfl (Kw.Sub.cons rfl Kw.Sub.nil)))))) ?_
      refine Kw.WC_false rfl ?_
      refine Kw.WC_skip ?_
      refine Kw.QN_block ?_
      refine Kw.QN_round ((v, V ++ [p])) ⟨trivial, A_mb, A_tb, A_bx, A_r, (by rw [dueK_no c22]; exact O_v), D_v_mb, D_v_tb, D_v_bx, D_v_r, HB⟩ (by dsimp only; rw [List.length_append]; omega) (Kw.Sub.cons rfl (Kw.Sub.cons rfl (Kw.Sub.cons rfl (Kw.Sub.cons rfl Kw.Sub.nil))))
end Go.Proofs.Ytidoilcgdfhfiaa.Fn
