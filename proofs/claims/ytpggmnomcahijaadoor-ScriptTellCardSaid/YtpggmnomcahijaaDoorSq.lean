/- Steps put, and whether two are the same. -/
import Derived.Test.YtpggmnomcahijaaDoorSg
namespace Go.Proofs.YtpggmnomcahijaaDoor.Fn
open Go Go.Proofs Go.RowKit
set_option linter.unusedVariables false
set_option linter.unusedSimpArgs false
section
variable {P : Program} {G : List (Option Tmp)} {Q : Exit → Act → World → Prop} {l : Kw.Env} {n : Nat} {w : World} {ops : List Oper} {SS : World → Prop} {r : List (Nat × Bool)}
theorem WX_off1 {i : Nat} {o : Oper} {d : Nat} (hi : ops[i]? = some o) (hw : Kw.off G l o.guard = true) (hd : o.dst = some d) (hn : Nat.blt d n = true) (hS : SS w)
    (h : Kw.WX P ops G Q SS r ((d, undef) :: l) n w) : Kw.WX P ops G Q SS ((i, false) :: r) l n w := fun hs hG listed hB a ha => by
  simp only [Kw.schedOK, Bool.and_eq_true, decide_eq_true_eq] at hB
  have hi' : ops.toArray[i]? = some o := by simpa using hi
  refine wpAnyH_all hB.1 (by simp) fun j hj => ?_
  obtain rfl : j = i := by simpa using hj
  unfold wpOp
  simp only [hi']
  rw [if_neg (by simp [Kw.wanted_off hG ha hw]), hd]
  exact ⟨hS, h hs hG _ hB.2 _ (ha.put _ hn)⟩
end
/-- A row of steps that can be read. -/
def Steps (w : World) (v : Value) (l : List Stp) : Prop := ∃ p c, v = .slice p l.length c ∧ (l = [] ∨ ∃ g o, p = some ⟨g, o, none⟩ ∧ g < w.heap.size ∧ ∀ i (h : i < l.length) j u, (stpCells (l[i]'h))[j]? = some u → w.cell? ⟨g, o + i * 5 + j, none⟩ = some u)
theorem Steps.below {w w' : World} {v : Value} {l : List Stp} (h : Steps w v l) (hb : Below w.heap.size w w') : Steps w' v l := by
  obtain ⟨p, c, rfl, h⟩ := h
  refine ⟨p, c, rfl, ?_⟩
  rcases h with h | ⟨g, o, hp, hg, hc⟩
  · exact .inl h
  · exact .inr ⟨g, o, hp, Nat.lt_of_lt_of_le hg hb.size, fun i hi j u hu => (hb.cell (p := ⟨g, o + i * 5 + j, none⟩) hg).trans (hc i hi j u hu)⟩
theorem stpsV_at : ∀ (l : List Stp) (i : Nat) (h : i < l.length) (j : Nat) (u : Value), (stpCells (l[i]'h))[j]? = some u → (stpsV l)[i * 5 + j]? = some u
  | x :: l, 0, h, j, u, hu => by
    have hj : j < 5 := (Array.getElem?_eq_some_iff.1 hu).1
    have e : stpsV (x :: l) = (stpCells x).toList ++ stpsV l := rfl
    rw [e, Nat.zero_mul, Nat.zero_add, List.getElem?_append_left (show j < (stpCells x).toList.length from hj), Array.getElem?_toList]
    exact hu
  | x :: l, i + 1, h, j, u, hu => by
    have e : stpsV (x :: l) = (stpCells x).toList ++ stpsV l := rfl
    have e2 : (stpCells x).toList.length = 5 := rfl
    rw [e, List.getElem?_append_right (by rw [e2]; omega), e2, show (i + 1) * 5 + j - 5 = i * 5 + j by omega]
    exact stpsV_at l i (by simpa using h) j u hu
theorem stpsV_len (l : List Stp) : (stpsV l).length = l.length * 5 := by
  induction l with
  | nil => rfl
  | cons x l ih =>
    have e : stpsV (x :: l) = (stpCells x).toList ++ stpsV l := rfl
    have e2 : (stpCells x).toList.length = 5 := rfl
    rw [e, List.length_append, e2, ih, List.length_cons]; omega
theorem Steps.own {w : World} {B n : Nat} {v : Value} {l : List Stp} (h : Kw.Own w B 30 5 v n (stpsV l)) (hn : n = l.length) : Steps w v l := by
  subst hn
  rcases h.2 with ⟨rfl, hz⟩ | ⟨g, cap, cur, rfl, _, hA, h1, h2, h3, h4⟩
  · have : l = [] := List.eq_nil_of_length_eq_zero hz
    subst this
    exact ⟨none, 0, rfl, .inl rfl⟩
  · refine ⟨_, cap, rfl, .inr ⟨g, 0, rfl, hA.lt, fun i hi j u hu => ?_⟩⟩
    have hj : j < 5 := (Array.getElem?_eq_some_iff.1 hu).1
    rw [hA.cell, Nat.zero_add, Kw.Own.cellAt h4 (by omega)]
    exact stpsV_at l i hi j u hu
theorem IsB.call {w w' : World} {B b : Nat} {bs : List Value} (h : Lib.IsBuilder 44 5 B b bs w) (hb : Below w.heap.size w w') : Lib.IsBuilder 44 5 B b bs w' := h.elim (fun h => .inl (Bld.call h hb)) (fun h => .inr (Bld.call h hb))
theorem fresh_b {w w0 : World} {B b : Nat} (hB : B ≤ b) (h : Kw.Newb w0 b F.Z44 44 w) : Lib.IsBuilder 44 5 B b [] w :=
  .inl ⟨hB, .slice none 0 0, by rw [h.eq, h.num]; show (w0.heap.push _)[w0.heap.size]? = _; simp; rfl, ⟨rfl, .inl ⟨rfl, rfl⟩⟩, by intro h; cases h⟩
theorem putL_snoc (l : List Stp) (x : Stp) : putL (l ++ [x]) = putL l ++ lineL x := by unfold putL; simp
theorem putL_take_le (l : List Stp) (i : Nat) : (putL (l.take i)).length ≤ (putL l).length := by
  have e : putL l = putL (l.take i) ++ putL (l.drop i) := by
    unfold putL; rw [← List.flatMap_append, List.take_append_drop]
  rw [e, List.length_append]; omega
theorem write_w (B b : Nat) (bs l : List UInt8) (w : World) (h : Lib.IsBuilder 44 5 B b (byV bs) w) (hlen : bs.length + l.length ≤ 1000000000) (hBw : B ≤ w.heap.size) :
    Calls Tryd.prog 14 #[.pointer (some ⟨b, 0, none⟩), .string (bA l)] w fun e w' => e = .returned (.tuple #[.int .i64 (bA l).size, .nilIface]) ∧ (Lib.IsBuilder 44 5 B b (byV (bs ++ l)) w' ∧ Below B w w') := by
  refine (write_c B b (byV bs) (bA l) w h (by rw [byV_length, bA_size]; omega) hBw).mono ?_
  rintro e w' ⟨h1, h2, h3⟩
  refine ⟨h1, .inr ?_, h3⟩
  have e : byV (bs ++ l) = byV bs ++ Lib.strCells (bA l) := by rw [byV_app]; unfold Lib.strCells; rw [bA_back]; rfl
  rw [e]; exact h2
def okL (l : List Stp) : Prop := ∀ x ∈ l, okS x ∧ x.t.size ≤ 10000000

set_option maxRecDepth 100000 in
set_option maxHeartbeats 4000000 in
theorem put_c (v : Value) (l : List Stp) (hl : okL l) (hn : l.length ≤ 1000000) (hp : (putL l).length ≤ 1000000000) (w : World) (GG : Glob w) (hv : Steps w v l) : Calls Tryd.prog 8 #[v] w fun e w' => e = .returned (.string (bA (putL l))) ∧ Below w.heap.size w w' := by
  have HB : Below w.heap.size w w := Below.refl _ _
  obtain ⟨p, c, rfl, hv⟩ := hv
  refine Kw.enter Tryd.func8 rfl Tryd.ntmps8 rfl rfl ?_
  refine Kw.WC_seq (fun K1 hK1 => ?_)
  refine Kw.WC_region [some 2] rfl ?_
  refine Kw.WL_v rfl rfl rfl (Kw.R_assign rfl) ?_
  refine Kw.WL_nil ?_
  refine hK1 _ _ ?_; clear hK1 K1
  refine Kw.WC_seq (fun K2 hK2 => ?_)
  refine Kw.WC_region [some 3] rfl ?_
  refine Kw.WL_alloc rfl rfl F.zr44 ?_; intro gb w3 N_gb
  have hbl : Lib.IsBuilder 44 5 w.heap.size gb (byV (putL (l.take 0))) w3 := fresh_b (N_gb.ge HB (Nat.le_refl _)) N_gb
  have G_gb := N_gb.ge HB (Nat.le_refl _); replace HB := N_gb.below HB (Nat.le_refl _); clear N_gb
  refine Kw.WL_nil ?_
  refine hK2 _ _ ?_; clear hK2 K2
  refine Kw.WC_seq (fun K4 hK4 => ?_)
  refine Kw.WC_seq (fun K5 hK5 => ?_)
  refine Kw.WC_region [some 6, some 7, some 8] rfl ?_
  refine Kw.WL_v rfl rfl rfl (Kw.R_move rfl) ?_
  refine Kw.WL_v rfl rfl rfl (Kw.R_lenl Tryd.underlying22 rfl) ?_
  refine Kw.WL_v rfl rfl rfl (Kw.R_move rfl) ?_
  refine Kw.WL_nil ?_
  refine hK5 _ _ ?_; clear hK5 K5
  refine Kw.WC_block ?_
  refine Kw.WC_loop (ι := Nat) (fun (i : Nat) (ww : World) => (i ≤ l.length ∧ Lib.IsBuilder 44 5 w.heap.size gb (byV (putL (l.take i))) ww) ∧ Below w.heap.size w ww) (fun (i : Nat) => [(3, .pointer (some ⟨gb, 0, none⟩)), (6, .slice p l.length c), (7, .int .i64 (l.length : Int)), (8, .int .i64 (i : Int))]) (fun (i : Nat) => l.length - i) 0 ⟨⟨Nat.zero_le _, hbl⟩, HB⟩ (Kw.Sub.cons rfl (Kw.Sub.cons rfl (Kw.Sub.cons rfl (Kw.Sub.cons rfl Kw.Sub.nil)))) ?_
  clear HB
  rintro i w6 ⟨⟨hi, hbl⟩, HB⟩
  refine Kw.WC_seq (fun K7 hK7 => ?_)
  refine Kw.WC_region [some 9] rfl ?_
  by_cases c8 : (i : Int) < (l.length : Int)
  ·
    refine Kw.WL_v rfl rfl rfl (Kw.R_lss (z := true) rfl rfl (decide_eq_true c8)) ?_
    have hil : i < l.length := by omega
    obtain ⟨gq, oq, rfl, hgq, hcq⟩ := hv.resolve_left (fun h => by rw [h] at hil; exact absurd hil (Nat.not_lt_zero _))
    obtain ⟨x, hx⟩ : ∃ x, x = l[i]'hil := ⟨_, rfl⟩
    have hxl := hl x (by rw [hx]; exact List.getElem_mem hil)
    have hcx := hcq i hil; rw [← hx] at hcx
    have HB2 := Below.refl w6.heap.size w6
    refine Kw.WL_nil ?_
    refine hK7 _ _ ?_; clear hK7 K7
    refine Kw.WC_seq (fun K9 hK9 => ?_)
    refine Kw.WC_true rfl ?_
    refine Kw.WC_skip ?_
    refine hK9 _ _ ?_; clear hK9 K9
    refine Kw.WC_seq (fun K10 hK10 => ?_)
    refine Kw.WC_block ?_
    refine Kw.WC_seq (fun K11 hK11 => ?_)
    refine Kw.WC_region [some 10, some 11, some 5, none] rfl ?_
    refine Kw.WL_v rfl rfl rfl (Kw.R_indexAddrS (i := i) (o' := oq + i * 5) rfl rfl Tryd.underlying22 F.sz30 (by omega) (by omega)) ?_
    refine Kw.WL_v rfl rfl rfl (Kw.R_loadcs (ds := stpCells x) rfl Tryd.underlying30 rfl (by exact F.sz30) (fun j u hu => (HB.cell (p := ⟨gq, oq + i * 5 + j, none⟩) hgq).trans (hcx j u hu))) ?_
    refine Kw.WL_alloc rfl rfl F.zr30 ?_; intro gx w12 N_gx
    have A_gx : Kw.At w12 gx F.Z30 30 := N_gx.at_
    have G2_gx := N_gx.ge HB2 (Nat.le_refl _); replace HB2 := N_gx.below HB2 (Nat.le_refl _); have G_gx := N_gx.ge HB (Nat.le_refl _); replace HB := N_gx.below HB (Nat.le_refl _); clear N_gx
    refine Kw.WL_storeW rfl rfl rfl (by exact F.sz30) A_gx rfl rfl ?_; intro w13 M_gx
    replace A_gx : Kw.At w13 gx (stpCells x) 30 := M_gx.at_ A_gx
    replace HB2 := M_gx.below HB2 G2_gx; replace HB := M_gx.below HB G_gx; clear M_gx
    refine Kw.WL_nil ?_
    refine hK11 _ _ ?_; clear hK11 K11
    refine Kw.WC_region [some 12, some 13, some 14] rfl ?_
    refine Kw.WL_v rfl rfl rfl (Kw.R_loadW rfl Tryd.underlying30 rfl (by exact F.sz30) A_gx) ?_
    refine Kw.WL_callc rfl rfl rfl rfl F.cl15 rfl (line_c x hxl.1 hxl.2 w13 (GG.below HB)) ?_; intro w14 bw14
    replace A_gx := A_gx.call bw14
    replace HB2 := Kw.Below.then HB2 (Nat.le_refl _) bw14; replace HB := Kw.Below.then HB (Nat.le_refl _) bw14
    clear bw14
    replace hbl := IsB.call hbl HB2
    have htk : l.take (i + 1) = l.take i ++ [x] := by rw [take_snocL hil, ← hx]
    have hpl := putL_take_le l (i + 1); rw [htk, putL_snoc, List.length_append] at hpl
    refine Kw.WL_callc rfl rfl rfl rfl F.cl14 rfl (write_w w.heap.size gb (putL (l.take i)) (lineL x) w14 hbl (by omega) HB.size) ?_; rintro w15 ⟨hbl2, bw15⟩
    clear hbl; have hbl := hbl2; clear hbl2; rw [← putL_snoc, ← htk] at hbl
    clear A_gx
    replace HB := Below.trans HB bw15; clear HB2
    refine Kw.WL_nil ?_
    refine Kw.QN_block ?_
    refine hK10 _ _ ?_; clear hK10 K10
    refine Kw.WC_sub (l' := [(3, .pointer (some ⟨gb, 0, none⟩)), (6, .slice (some ⟨gq, oq, none⟩) l.length c), (7, .int .i64 (l.length : Int)), (8, .int .i64 (i : Int))]) (Kw.Sub.cons rfl (Kw.Sub.cons rfl (Kw.Sub.cons rfl (Kw.Sub.cons rfl Kw.Sub.nil)))) ?_
    refine Kw.WC_region [some 15, some 8] rfl ?_
    refine Kw.WL_v rfl rfl rfl (Kw.R_add (c := ((i + 1 : Nat) : Int)) rfl rfl (by rw [Kw.wrap_i64 (by omega)]; omega)) ?_
    refine Kw.WL_v rfl rfl rfl (Kw.R_move rfl) ?_
    refine Kw.WL_nil ?_
    refine Kw.QN_round (i + 1) ⟨⟨by omega, hbl⟩, HB⟩ (by omega) (Kw.Sub.cons rfl (Kw.Sub.cons rfl (Kw.Sub.cons rfl (Kw.Sub.cons rfl Kw.Sub.nil))))
  ·
    refine Kw.WL_v rfl rfl rfl (Kw.R_lss (z := false) rfl rfl (decide_eq_false c8)) ?_
    obtain rfl : i = l.length := by omega
    rw [List.take_length] at hbl
    refine Kw.WL_nil ?_
    refine hK7 _ _ ?_; clear hK7 K7
    refine Kw.WC_seq (fun K16 hK16 => ?_)
    refine Kw.WC_false rfl ?_
    refine Kw.WC_exit ?_
    refine Kw.QE_then ?_; clear hK16 K16
    refine Kw.QE_then ?_
    refine Kw.QE_here ?_
    refine hK4 _ _ ?_; clear hK4 K4
    refine Kw.WC_seq (fun K17 hK17 => ?_)
    refine Kw.WC_region [some 16, some 2] rfl ?_
    refine Kw.WL_callc rfl rfl rfl rfl F.cl16 rfl (Tryd.Builder_String_any w.heap.size gb (putL l) w6 hbl HB.size) ?_; rintro w18 bw18
    replace HB := Below.trans HB bw18
    refine Kw.WL_v rfl rfl rfl (Kw.R_assign rfl) ?_
    refine Kw.WL_nil ?_
    refine hK17 _ _ ?_; clear hK17 K17
    refine Kw.WC_sub (l' := [(2, .string (bA (putL l)))]) (Kw.Sub.cons rfl Kw.Sub.nil) ?_
    refine Kw.WC_ret ?_
    exact Kw.post_ret1 rfl rfl ⟨rfl, HB⟩

set_option maxRecDepth 100000 in
set_option maxHeartbeats 4000000 in
theorem same_c (a b : Stp) (ha : okS a ∧ a.t.size ≤ 10000000) (hb : okS b ∧ b.t.size ≤ 10000000) (w : World) (GG : Glob w) : Calls Tryd.prog 10 #[.agg (stpCells a), .agg (stpCells b)] w fun e w' => e = .returned (.bool (decide (lineL a ≠ [] ∧ lineL a = lineL b))) ∧ Below w.heap.size w w' := by
  have HB : Below w.heap.size w w := Below.refl _ _
  refine Kw.enter Tryd.func10 rfl Tryd.ntmps10 rfl rfl ?_
  refine Kw.WC_seq (fun K1 hK1 => ?_)
  refine Kw.WC_region [some 2, some 3, some 4] rfl ?_
  refine Kw.WL_box rfl rfl rfl ?_; intro ga w2 N_ga
  have A_ga : Kw.At w2 ga (stpCells a) 30 := N_ga.at_
  have G_ga := N_ga.ge HB (Nat.le_refl _); replace HB := N_ga.below HB (Nat.le_refl _); clear N_ga
  refine Kw.WL_box rfl rfl rfl ?_; intro gb w3 N_gb
  have L_ga_gb := N_gb.ne A_ga; replace A_ga := N_gb.keep A_ga
  have A_gb : Kw.At w3 gb (stpCells b) 30 := N_gb.at_
  have G_gb := N_gb.ge HB (Nat.le_refl _); replace HB := N_gb.below HB (Nat.le_refl _); clear N_gb
  refine Kw.WL_v rfl rfl rfl (Kw.R_assign rfl) ?_
  refine Kw.WL_nil ?_
  refine hK1 _ _ ?_; clear hK1 K1
  refine Kw.WC_seq (fun K4 hK4 => ?_)
  refine Kw.WC_sched (fun ww => Kw.At ww ga (stpCells a) 30 ∧ Kw.At ww gb (stpCells b) 30 ∧ True) [(0, true), (1, false), (2, true), (3, true), (4, true), (6, true), (5, false), (7, false), (8, true), (9, true), (10, true)] [some 5, some 6, some 7, some 8, some 9, some 10, some 11, some 12, some 13, some 14, some 4] rfl (by kernel_rfl) rfl (by kernel_rfl) ?_
  obtain ⟨w5, hww5⟩ : ∃ x : World, x = Go.World.drew w3 := ⟨_, rfl⟩
  rw [← hww5]
  replace A_ga : Kw.At w5 ga (stpCells a) 30 := by rw [hww5]; exact A_ga
  replace A_gb : Kw.At w5 gb (stpCells b) 30 := by rw [hww5]; exact A_gb
  replace HB : Below w.heap.size w w5 := by rw [hww5]; exact HB.drew
  clear hww5
  have hS : Kw.At w5 ga (stpCells a) 30 ∧ Kw.At w5 gb (stpCells b) 30 ∧ True := ⟨A_ga, A_gb, trivial⟩
  refine Kw.WX_take rfl rfl rfl rfl (fun _ _ _ h => h) hS (fun _ ⟨A_ga, A_gb, _⟩ => Kw.R_loadW rfl Tryd.underlying30 rfl (by exact F.sz30) A_ga) ?_
  refine Kw.WX_callc rfl rfl rfl rfl rfl F.cl15 rfl (line_c a ha.1 ha.2 w5 (GG.below HB)) ?_; intro w6 bw6
  clear hS
  replace A_ga := A_ga.call bw6
  replace A_gb := A_gb.call bw6
  replace HB := Kw.Below.then HB (Nat.le_refl _) bw6
  have hS : Kw.At w6 ga (stpCells a) 30 ∧ Kw.At w6 gb (stpCells b) 30 ∧ True := ⟨A_ga, A_gb, trivial⟩
  clear bw6
  refine ⟨hS, ?_⟩
  by_cases ce : bA (lineL a) = ⟨#[]⟩
  ·
    refine Kw.WX_take rfl rfl rfl rfl (fun _ _ _ h => h) hS (fun _ ⟨A_ga, A_gb, _⟩ => Kw.R_nes (z := false) rfl rfl (decide_eq_true ce)) ?_
    have hee := bA_nil ce
    refine Kw.WX_take rfl rfl rfl rfl (fun _ _ _ h => h) hS (fun _ ⟨A_ga, A_gb, _⟩ => Kw.R_move rfl) ?_
    refine Kw.WX_off rfl rfl rfl rfl (fun _ _ _ h => h) hS ?_
    refine Kw.WX_off rfl rfl rfl rfl (fun _ _ _ h => h) hS ?_
    refine WX_off1 rfl rfl rfl rfl hS ?_
    refine WX_off1 rfl rfl rfl rfl hS ?_
    refine Kw.WX_off rfl rfl rfl rfl (fun _ _ _ h => h) hS ?_
    refine Kw.WX_take rfl rfl rfl rfl (fun _ _ _ h => h) hS (fun _ ⟨A_ga, A_gb, _⟩ => Kw.R_pickf rfl rfl) ?_
    refine Kw.WX_take rfl rfl rfl rfl (fun _ _ _ h => h) hS (fun _ ⟨A_ga, A_gb, _⟩ => Kw.R_assign rfl) ?_
    refine Kw.WX_nil ?_
    clear hS
    refine hK4 _ _ ?_; clear hK4 K4
    refine Kw.WC_sub (l' := [(4, .bool false)]) (Kw.Sub.cons rfl Kw.Sub.nil) ?_
    refine Kw.WC_ret ?_
    exact Kw.post_ret1 rfl rfl ⟨by rw [decide_eq_false (fun h : lineL a ≠ [] ∧ lineL a = lineL b => h.1 hee)], HB⟩
  ·
    refine Kw.WX_take rfl rfl rfl rfl (fun _ _ _ h => h) hS (fun _ ⟨A_ga, A_gb, _⟩ => Kw.R_nes (z := true) rfl rfl (decide_eq_false ce)) ?_
    have hne : lineL a ≠ [] := fun h => ce (by rw [h]; rfl)
    refine Kw.WX_take rfl rfl rfl rfl (fun _ _ _ h => h) hS (fun _ ⟨A_ga, A_gb, _⟩ => Kw.R_move rfl) ?_
    refine Kw.WX_take rfl rfl rfl rfl (fun _ _ _ h => h) hS (fun _ ⟨A_ga, A_gb, _⟩ => Kw.R_loadW rfl Tryd.underlying30 rfl (by exact F.sz30) A_ga) ?_
    refine Kw.WX_take rfl rfl rfl rfl (fun _ _ _ h => h) hS (fun _ ⟨A_ga, A_gb, _⟩ => Kw.R_loadW rfl Tryd.underlying30 rfl (by exact F.sz30) A_gb) ?_
    refine Kw.WX_callc rfl rfl rfl rfl rfl F.cl15 rfl (line_c a ha.1 ha.2 w6 (GG.below HB)) ?_; intro w7 bw7
    clear hS
    replace A_ga := A_ga.call bw7
    replace A_gb := A_gb.call bw7
    replace HB := Kw.Below.then HB (Nat.le_refl _) bw7
    have hS : Kw.At w7 ga (stpCells a) 30 ∧ Kw.At w7 gb (stpCells b) 30 ∧ True := ⟨A_ga, A_gb, trivial⟩
    clear bw7
    refine ⟨hS, ?_⟩
    refine Kw.WX_callc rfl rfl rfl rfl rfl F.cl15 rfl (line_c b hb.1 hb.2 w7 (GG.below HB)) ?_; intro w8 bw8
    clear hS
    replace A_ga := A_ga.call bw8
    replace A_gb := A_gb.call bw8
    replace HB := Kw.Below.then HB (Nat.le_refl _) bw8
    have hS : Kw.At w8 ga (stpCells a) 30 ∧ Kw.At w8 gb (stpCells b) 30 ∧ True := ⟨A_ga, A_gb, trivial⟩
    clear bw8
    refine ⟨hS, ?_⟩
    obtain ⟨zz, hzz⟩ : ∃ z : Bool, decide ((bA (lineL a)) = (bA (lineL b))) = z := ⟨_, rfl⟩
    refine Kw.WX_take rfl rfl rfl rfl (fun _ _ _ h => h) hS (fun _ ⟨A_ga, A_gb, _⟩ => Kw.R_eqs rfl rfl hzz) ?_
    refine Kw.WX_take rfl rfl rfl rfl (fun _ _ _ h => h) hS (fun _ ⟨A_ga, A_gb, _⟩ => Kw.R_pickt rfl rfl) ?_
    refine Kw.WX_take rfl rfl rfl rfl (fun _ _ _ h => h) hS (fun _ ⟨A_ga, A_gb, _⟩ => Kw.R_assign rfl) ?_
    refine Kw.WX_nil ?_
    clear hS
    refine hK4 _ _ ?_; clear hK4 K4
    refine Kw.WC_sub (l' := [(4, .bool zz)]) (Kw.Sub.cons rfl Kw.Sub.nil) ?_
    refine Kw.WC_ret ?_
    exact Kw.post_ret1 rfl rfl ⟨by rw [dec_bA hzz]; simp [hne], HB⟩
end Go.Proofs.YtpggmnomcahijaaDoor.Fn
