/- ScriptTell, walked. -/
import Derived.Test.YtpggmnomcahijaaDoorRb
import Derived.DeepKeys4
namespace Go.Proofs.YtpggmnomcahijaaDoor.Fn
open Go Go.Proofs Go.RowKit
set_option linter.unusedVariables false
set_option linter.unusedSimpArgs false
theorem Steps.own35 {w : World} {B n : Nat} {v : Value} {l : List Stp} (h : Kw.Own w B 35 5 v n (stpsV l)) (hn : n = l.length) : Steps w v l := by
  subst hn
  rcases h.2 with ⟨rfl, hz⟩ | ⟨g, cap, cur, rfl, _, hA, h1, h2, h3, h4⟩
  · have : l = [] := List.eq_nil_of_length_eq_zero hz
    subst this
    exact ⟨none, 0, rfl, .inl rfl⟩
  · refine ⟨_, cap, rfl, .inr ⟨g, 0, rfl, hA.lt, fun i hi j u hu => ?_⟩⟩
    have hj : j < 5 := (Array.getElem?_eq_some_iff.1 hu).1
    rw [hA.cell, Nat.zero_add, Kw.Own.cellAt h4 (by omega)]
    exact stpsV_at l i hi j u hu
theorem cells_own {l : List Stp} {cur : Array Value} {n : Nat} (h : cur.toList.take (n * 5) = stpsV l) (hn : n = l.length) {i : Nat} (hi : i < l.length) {j : Nat} {u : Value} (hu : (stpCells (l[i]'hi))[j]? = some u) : cur[i * 5 + j]? = some u := by
  have hj : j < 5 := (Array.getElem?_eq_some_iff.1 hu).1
  rw [Kw.Own.cellAt h (by omega)]
  exact stpsV_at l i hi j u hu
theorem wf_i64 {n : Int} (h : i64 n) : (Lit.int .i64 n).wf = true := by unfold i64 at h; simp [Lit.wf, IntKind.min, IntKind.max, IntKind.signed, IntKind.bits]; omega
theorem lits_int {P : Program} {d : Nat} {t : TypeId} {k : IntKind} {n : Int} (hu : P.underlying t = some (.int k)) (hw : (Lit.int k n).wf = true) : P.keyLits (d + 1) t [.int k n] = some [.int k n] := by simp [Program.keyLits, hu, hw]
theorem lits_str {P : Program} {d : Nat} {t : TypeId} {s : ByteArray} (hu : P.underlying t = some .string) (hs : s.size ≤ maxLen) : P.keyLits (d + 1) t [.string s] = some [.string s.data.toList] := by simp [Program.keyLits, hu, hs]
theorem lits_struct5 {P : Program} {d : Nat} {t : TypeId} {a b c e f : Field} {cs : List Value} {l0 l1 l2 l3 l4 : List Lit} (hu : P.underlying t = some (.struct #[a, b, c, e, f])) (hl : cs.length = P.cellsOf t) (hn : (#[a, b, c, e, f] : Array Field).all (·.name != "_") = true)
    (h0 : P.keyLits d a.type ((cs.drop a.offset).take (P.cellsOf a.type)) = some l0) (h1 : P.keyLits d b.type ((cs.drop b.offset).take (P.cellsOf b.type)) = some l1) (h2 : P.keyLits d c.type ((cs.drop c.offset).take (P.cellsOf c.type)) = some l2) (h3 : P.keyLits d e.type ((cs.drop e.offset).take (P.cellsOf e.type)) = some l3) (h4 : P.keyLits d f.type ((cs.drop f.offset).take (P.cellsOf f.type)) = some l4) :
    P.keyLits (d + 1) t cs = some [l0, l1, l2, l3, l4].flatten := by
  rw [Program.keyLits.eq_def]
  simp only [hu]
  rw [if_pos ⟨hl, hn⟩]
  simp [h0, h1, h2, h3, h4]
theorem laidOut35 : laidOutB Tryd.prog = true := by kernel_rfl
set_option maxRecDepth 1000000 in
theorem key35 (x : Stp) (h : okS x) (ht : x.t.size ≤ 10000000) : ∃ L, keyOf Tryd.prog 35 (.agg (stpCells x)) = some L := by
  obtain ⟨⟨k1, k2⟩, ⟨a1, a2⟩, ⟨b1, b2⟩, ⟨c1, c2⟩⟩ := h
  have hf : (Value.agg (stpCells x)).formed Tryd.prog 35 = true := by
    unfold Value.formed; rw [Tryd.underlying35]; show decide (5 = Tryd.prog.cellsOf 35) = true; rw [show Tryd.prog.cellsOf 35 = 5 by kernel_rfl]; rfl
  have hl : ∃ L, Tryd.prog.keyLits (Tryd.prog.types.size + 1) 35 (Value.agg (stpCells x)).cells.toList = some L := by
    rw [show Tryd.prog.types.size = 138 + 1 by kernel_rfl]
    have c3 : Tryd.prog.cellsOf 3 = 1 := by kernel_rfl
    have c9 : Tryd.prog.cellsOf 9 = 1 := by kernel_rfl
    have c35 : Tryd.prog.cellsOf 35 = 5 := by kernel_rfl
    exact ⟨_, lits_struct5 Tryd.underlying35 c35.symm (by kernel_rfl)
      (by show Tryd.prog.keyLits (138 + 1) 3 (([.int .i64 x.kind, .int .i64 x.a, .int .i64 x.b, .int .i64 x.c, .string x.t].drop 0).take (Tryd.prog.cellsOf 3)) = _; rw [c3]; exact lits_int Tryd.underlying3 (wf_i64 ⟨k1, k2⟩))
      (by show Tryd.prog.keyLits (138 + 1) 3 (([.int .i64 x.kind, .int .i64 x.a, .int .i64 x.b, .int .i64 x.c, .string x.t].drop 1).take (Tryd.prog.cellsOf 3)) = _; rw [c3]; exact lits_int Tryd.underlying3 (wf_i64 ⟨a1, a2⟩))
      (by show Tryd.prog.keyLits (138 + 1) 3 (([.int .i64 x.kind, .int .i64 x.a, .int .i64 x.b, .int .i64 x.c, .string x.t].drop 2).take (Tryd.prog.cellsOf 3)) = _; rw [c3]; exact lits_int Tryd.underlying3 (wf_i64 ⟨b1, b2⟩))
      (by show Tryd.prog.keyLits (138 + 1) 3 (([.int .i64 x.kind, .int .i64 x.a, .int .i64 x.b, .int .i64 x.c, .string x.t].drop 3).take (Tryd.prog.cellsOf 3)) = _; rw [c3]; exact lits_int Tryd.underlying3 (wf_i64 ⟨c1, c2⟩))
      (by show Tryd.prog.keyLits (138 + 1) 9 (([.int .i64 x.kind, .int .i64 x.a, .int .i64 x.b, .int .i64 x.c, .string x.t].drop 4).take (Tryd.prog.cellsOf 9)) = _; rw [c9]; exact lits_str Tryd.underlying9 (by unfold maxLen; omega))⟩
  obtain ⟨L, hL⟩ := hl
  exact ⟨.string (keyBytes L), by unfold keyOf; rw [Tryd.underlying35]; simp only [show Tryd.prog.keyType 35 = true by kernel_rfl, hf, hL, Bool.and_self, if_true, Option.map_some]⟩
set_option maxRecDepth 1000000 in
theorem R_ne35 {P' : Program} {l : Kw.Env} {w : World} {D : Option Tmp} {T : TypeId} {S : String} {F : Array Edge} {g : Option (Nat × Bool)} {a b : Operand} {t2 : TypeId} {x : Stp} (h : okS x) (ht : x.t.size ≤ 10000000) (hx : Kw.ev l a = some (.agg (stpCells x))) (hy : Kw.ev l b = some (.agg (stpCells x))) :
    Kw.Runs Tryd.prog l ⟨D, .binOp .neq 35 a b t2, T, S, F, g⟩ w (.bool false) w := by
  obtain ⟨L, hL⟩ := key35 x h ht
  obtain ⟨r, hr, hiff⟩ := run_equal_deep w (P := Tryd.prog) (m := 3) (by omega) (k := 35) (by kernel_rfl) (by rw [Tryd.underlying35]) hL hL
  have hrt : r = true := hiff.2 rfl
  subst hrt
  refine Kw.run_binq hx hy ?_ ?_
  · have hg : Tryd.prog.eqGuardType Tryd.prog.depth 35 = false := by kernel_rfl
    unfold eqGuard
    simp [program, hg, Result.andThen, Sem.run]
  · simp [binOp, hr, Result.andThen]

set_option maxRecDepth 100000 in
set_option maxHeartbeats 4000000 in
theorem tell_c (v : Value) (l : List Stp) (hl63 : l.length ≤ 9223372036854775807) (hok : ∀ x ∈ l, okS x) (s : ByteArray) (w : World) (GG : Glob w) (hv : Steps w v l) : Calls Tryd.prog 5 #[v, .string s] w fun e w' => e = .returned (.bool true) ∧ Below w.heap.size w w' := by
  have HB : Below w.heap.size w w := Below.refl _ _
  have hS := hv
  obtain ⟨p, c, rfl, hv⟩ := hv
  refine Kw.enter Tryd.func5 rfl Tryd.ntmps5 rfl rfl ?_
  refine Kw.WC_seq (fun K1 hK1 => ?_)
  refine Kw.WC_region [some 4] rfl ?_
  refine Kw.WL_v rfl rfl rfl (Kw.R_assign rfl) ?_
  refine Kw.WL_nil ?_
  refine hK1 _ _ ?_; clear hK1 K1
  refine Kw.WC_seq (fun K2 hK2 => ?_)
  refine Kw.WC_seq (fun K3 hK3 => ?_)
  refine Kw.WC_region [some 14, some 15, some 16, some 17, some 18, some 19, some 20] rfl ?_
  refine Kw.WL_v rfl rfl rfl (Kw.R_move rfl) ?_
  refine Kw.WL_call rfl rfl rfl rfl F.cl6 rfl (great_c _ l hl63 w (hS.below HB)) ?_; rintro _ w4 ⟨⟨zb, rfl, hzb⟩, bw4⟩
  replace HB := Kw.Below.then HB (Nat.le_refl _) bw4
  clear bw4
  cases zb
  ·
    obtain ⟨hsz, hn60⟩ := hzb rfl
    have okl : okL l := fun x hx => ⟨hok x hx, Nat.le_trans (hsz x hx) (by decide)⟩
    have hpl := put_small hsz hn60
    refine Kw.WL_v rfl rfl rfl (Kw.R_move rfl) ?_
    refine Kw.WL_v rfl rfl rfl (Kw.R_move rfl) ?_
    refine Kw.WL_v rfl rfl rfl (Kw.R_lens Tryd.underlying9 rfl) ?_
    by_cases c5 : (2000 : Int) < (s.size : Int)
    ·
      refine Kw.WL_v rfl rfl rfl (Kw.R_gtr (z := true) rfl rfl (decide_eq_true c5)) ?_
      refine Kw.WL_v rfl rfl rfl (Kw.R_pickf rfl rfl) ?_
      refine Kw.WL_nil ?_
      refine hK3 _ _ ?_; clear hK3 K3
      refine Kw.WC_sub (l' := [(0, .slice p l.length c), (1, .string s), (20, .bool true)]) (Kw.Sub.cons rfl (Kw.Sub.cons rfl (Kw.Sub.cons rfl Kw.Sub.nil))) ?_
      refine Kw.WC_true rfl ?_
      refine Kw.WC_seq (fun K6 hK6 => ?_)
      refine Kw.WC_region [some 21, some 4] rfl ?_
      refine Kw.WL_callc rfl rfl rfl rfl F.cl7 rfl (written_c w4 (GG.below HB)) ?_; intro w7 bw7
      replace HB := Kw.Below.then HB (Nat.le_refl _) bw7
      clear bw7
      refine Kw.WL_v rfl rfl rfl (Kw.R_assign rfl) ?_
      refine Kw.WL_nil ?_
      refine hK6 _ _ ?_; clear hK6 K6
      refine Kw.WC_ret ?_
      refine Kw.QR_then ?_; clear hK2 K2
      exact Kw.post_ret1 rfl rfl ⟨rfl, HB⟩
    ·
      refine Kw.WL_v rfl rfl rfl (Kw.R_gtr (z := false) rfl rfl (decide_eq_false c5)) ?_
      refine Kw.WL_v rfl rfl rfl (Kw.R_pickf rfl rfl) ?_
      refine Kw.WL_nil ?_
      refine hK3 _ _ ?_; clear hK3 K3
      refine Kw.WC_sub (l' := [(0, .slice p l.length c), (1, .string s), (20, .bool false)]) (Kw.Sub.cons rfl (Kw.Sub.cons rfl (Kw.Sub.cons rfl Kw.Sub.nil))) ?_
      refine Kw.WC_false rfl ?_
      refine Kw.WC_skip ?_
      refine hK2 _ _ ?_; clear hK2 K2
      refine Kw.WC_seq (fun K8 hK8 => ?_)
      refine Kw.WC_region [some 5] rfl ?_
      refine Kw.WL_v rfl rfl rfl (Kw.R_assign rfl) ?_
      refine Kw.WL_nil ?_
      refine hK8 _ _ ?_; clear hK8 K8
      refine Kw.WC_seq (fun K9 hK9 => ?_)
      refine Kw.WC_seq (fun K10 hK10 => ?_)
      refine Kw.WC_region [some 6] rfl ?_
      refine Kw.WL_v rfl rfl rfl (Kw.R_assign rfl) ?_
      refine Kw.WL_nil ?_
      refine hK10 _ _ ?_; clear hK10 K10
      refine Kw.WC_block ?_
      refine Kw.WC_loop (ι := Nat × Value) (fun (q : Nat × Value) (ww : World) => match q with | ⟨i, vm⟩ => (i ≤ l.length) ∧ Kw.Own ww w.heap.size 35 5 vm i (stpsV (l.take i)) ∧ Below w.heap.size w ww) (fun (q : Nat × Value) => match q with | ⟨i, vm⟩ => [(0, .slice p l.length c), (1, .string s), (5, vm), (6, .int .i64 (i : Int))]) (fun (q : Nat × Value) => match q with | ⟨i, vm⟩ => l.length - i) (0, .slice none 0 0) ⟨Nat.zero_le _, Kw.Own.nil _ _ _ _, HB⟩ (Kw.Sub.cons rfl (Kw.Sub.cons rfl (Kw.Sub.cons rfl (Kw.Sub.cons rfl Kw.Sub.nil)))) ?_
      clear HB
      rintro ⟨i, vm⟩ w11 ⟨hi, O_vm, HB⟩
      dsimp only at *
      refine Kw.WC_seq (fun K12 hK12 => ?_)
      refine Kw.WC_seq (fun K13 hK13 => ?_)
      refine Kw.WC_region [some 22, some 23, some 24, some 25] rfl ?_
      refine Kw.WL_v rfl rfl rfl (Kw.R_move rfl) ?_
      refine Kw.WL_v rfl rfl rfl (Kw.R_move rfl) ?_
      refine Kw.WL_v rfl rfl rfl (Kw.R_lenl Tryd.underlying22 rfl) ?_
      by_cases c14 : (i : Int) < (l.length : Int)
      ·
        refine Kw.WL_v rfl rfl rfl (Kw.R_lss (z := true) rfl rfl (decide_eq_true c14)) ?_
        have hil : i < l.length := by omega
        obtain ⟨gq, oq, rfl, hgq, hcq⟩ := hv.resolve_left (fun h => by rw [h] at hil; exact absurd hil (Nat.not_lt_zero _))
        obtain ⟨x, hx⟩ : ∃ x, x = l[i]'hil := ⟨_, rfl⟩
        have hcx := hcq i hil; rw [← hx] at hcx
        have hxl : x ∈ l := by rw [hx]; exact List.getElem_mem hil
        refine Kw.WL_nil ?_
        refine hK13 _ _ ?_; clear hK13 K13
        refine Kw.WC_true rfl ?_
        refine Kw.WC_skip ?_
        refine hK12 _ _ ?_; clear hK12 K12
        refine Kw.WC_seq (fun K15 hK15 => ?_)
        refine Kw.WC_block ?_
        refine Kw.WC_seq (fun K16 hK16 => ?_)
        refine Kw.WC_region [some 28, some 29, some 30, some 31, some 32, some 33, some 34, some 5] rfl ?_
        refine Kw.WL_v rfl rfl rfl (Kw.R_move rfl) ?_
        refine Kw.WL_v rfl rfl rfl (Kw.R_move rfl) ?_
        refine Kw.WL_v rfl rfl rfl (Kw.R_move rfl) ?_
        refine Kw.WL_v rfl rfl rfl (Kw.R_indexAddrS (i := i) (o' := oq + i * 5) rfl rfl Tryd.underlying22 F.sz30 (by omega) (by omega)) ?_
        refine Kw.WL_v rfl rfl rfl (Kw.R_loadcs (ds := stpCells x) rfl Tryd.underlying30 rfl (by exact F.sz30) (fun j u hu => (HB.cell (p := ⟨gq, oq + i * 5 + j, none⟩) hgq).trans (hcx j u hu))) ?_
        obtain ⟨gy, w17, N_gy⟩ : ∃ b_ w2_, Kw.Newb w11 b_ (stpCells x) 35 w2_ := ⟨_, _, rfl, rfl⟩
        refine Kw.WL_v rfl rfl rfl (Kw.R_buildSlice rfl (fun w => by kernel_rfl) N_gy) ?_
        have A_gy : Kw.At w17 gy (stpCells x) 35 := N_gy.at_
        have D_vm_gy := O_vm.ne_new N_gy; replace O_vm := O_vm.new N_gy
        have G_gy := N_gy.ge HB (Nat.le_refl _); replace HB := N_gy.below HB (Nat.le_refl _); clear N_gy
        refine Kw.WL_append rfl rfl rfl rfl Tryd.underlying34 Tryd.underlying34 (.inr ⟨_, rfl⟩) F.sz35 F.by35 F.ze35 rfl O_vm (Kw.News.row (news := (stpCells x).toList) A_gy rfl rfl (by simp [Value.oneCell', stpCells])) (by unfold maxLen; omega) (by omega) HB.size ?_; intro v34 w18 O_v34 R_v34
        have D_v34_gy := R_v34.ne A_gy D_vm_gy
        replace A_gy := R_v34.keep A_gy D_vm_gy
        replace HB := R_v34.below HB (Nat.le_refl _) (fun g hg => O_vm.ge hg); clear R_v34
        replace O_v34 : Kw.Own w18 w.heap.size 35 5 v34 (i + 1) (stpsV (l.take (i + 1))) := by rw [take_snocL hil, ← hx, stpsV_app, stpsV_one]; exact O_v34
        clear O_vm
        clear A_gy
        refine Kw.WL_v rfl rfl rfl (Kw.R_assign rfl) ?_
        refine Kw.WL_nil ?_
        refine hK16 _ _ ?_; clear hK16 K16
        refine Kw.WC_sub (l' := [(0, .slice (some ⟨gq, oq, none⟩) l.length c), (1, .string s), (5, v34), (6, .int .i64 (i : Int))]) (Kw.Sub.cons rfl (Kw.Sub.cons rfl (Kw.Sub.cons rfl (Kw.Sub.cons rfl Kw.Sub.nil)))) ?_
        refine Kw.WC_seq (fun K19 hK19 => ?_)
        obtain ⟨gm, capm, curm, hvm, hBm, A_gm, h1m, h2m, h3m, h4m⟩ : ∃ g cap cur, v34 = .slice (some ⟨g, 0, none⟩) (i + 1) cap ∧ w.heap.size ≤ g ∧ Kw.At w18 g cur 35 ∧ i + 1 ≤ cap ∧ cap ≤ maxLen ∧ cur.size = cap * 5 ∧ cur.toList.take ((i + 1) * 5) = stpsV (l.take (i + 1)) := O_v34.2.resolve_left (fun h => by have := h.2; omega)
        subst hvm
        have hln1 : i + 1 = (l.take (i + 1)).length := by rw [List.length_take]; omega
        refine Kw.WC_sched (fun ww => Kw.At ww gm curm 35 ∧ Below w.heap.size w ww ∧ True) [(0, true), (1, true), (2, true), (3, true), (4, true), (5, true), (6, true), (7, true), (8, true), (9, true), (10, true), (11, true), (13, true), (14, true), (15, true), (16, true), (17, true), (18, true), (19, true), (20, true), (21, true), (12, false), (22, false), (23, true), (24, true)] [some 35, some 36, some 37, some 38, some 39, some 40, some 41, some 42, some 43, some 44, some 45, some 46, some 47, some 48, some 49, some 50, some 51, some 52, some 53, some 54, some 55, some 56, some 57, some 58, some 59] rfl (by kernel_rfl) rfl (by kernel_rfl) ?_
        obtain ⟨w20, hww20⟩ : ∃ x : World, x = Go.World.drew w18 := ⟨_, rfl⟩
        rw [← hww20]
        replace A_gm : Kw.At w20 gm curm 35 := by rw [hww20]; exact A_gm
        replace O_v34 := O_v34.drew; rw [← hww20] at O_v34
        replace HB : Below w.heap.size w w20 := by rw [hww20]; exact HB.drew
        clear hww20
        have hS : Kw.At w20 gm curm 35 ∧ Below w.heap.size w w20 ∧ True := ⟨A_gm, HB, trivial⟩
        refine Kw.WX_take rfl rfl rfl rfl (fun _ _ _ h => h) hS (fun _ ⟨A_gm, HB, _⟩ => Kw.R_move rfl) ?_
        by_cases c0 : (0 : Int) < (i : Int)
        ·
          refine Kw.WX_take rfl rfl rfl rfl (fun _ _ _ h => h) hS (fun _ ⟨A_gm, HB, _⟩ => Kw.R_gtr (z := true) rfl rfl (decide_eq_true c0)) ?_
          have hi1 : i - 1 < l.length := by omega
          obtain ⟨x1, hx1⟩ : ∃ x, x = l[i - 1]'hi1 := ⟨_, rfl⟩
          have hc1 := hcq (i - 1) hi1; rw [← hx1] at hc1
          have hx1l : x1 ∈ l := by rw [hx1]; exact List.getElem_mem hi1
          obtain ⟨zz, hzz⟩ : ∃ z, decide (lineL x1 ≠ [] ∧ lineL x1 = lineL x) = z := ⟨_, rfl⟩
          have hm0 : ∀ (j : Nat) (u : Value), (stpCells x)[j]? = some u → curm[i * 5 + j]? = some u := fun j u hu => cells_own h4m hln1 (i := i) (by omega) (by rw [List.getElem_take, ← hx]; exact hu)
          have hm1 : ∀ (j : Nat) (u : Value), (stpCells x1)[j]? = some u → curm[(i - 1) * 5 + j]? = some u := fun j u hu => cells_own h4m hln1 (i := i - 1) (by omega) (by rw [List.getElem_take, ← hx1]; exact hu)
          refine Kw.WX_take rfl rfl rfl rfl (fun _ _ _ h => h) hS (fun _ ⟨A_gm, HB, _⟩ => Kw.R_move rfl) ?_
          refine Kw.WX_take rfl rfl rfl rfl (fun _ _ _ h => h) hS (fun _ ⟨A_gm, HB, _⟩ => Kw.R_move rfl) ?_
          refine Kw.WX_take rfl rfl rfl rfl (fun _ _ _ h => h) hS (fun _ ⟨A_gm, HB, _⟩ => Kw.R_move rfl) ?_
          refine Kw.WX_take rfl rfl rfl rfl (fun _ _ _ h => h) hS (fun _ ⟨A_gm, HB, _⟩ => Kw.R_sub (c := ((i - 1 : Nat) : Int)) rfl rfl (by rw [Kw.wrap_i64 (by omega)]; omega)) ?_
          refine Kw.WX_take rfl rfl rfl rfl (fun _ _ _ h => h) hS (fun _ ⟨A_gm, HB, _⟩ => Kw.R_indexAddrS (i := (i - 1 : Nat)) (o' := oq + (i - 1) * 5) rfl rfl Tryd.underlying22 F.sz30 (by omega) (by omega)) ?_
          refine Kw.WX_take rfl rfl rfl rfl (fun _ _ _ h => h) hS (fun _ ⟨A_gm, HB, _⟩ => Kw.R_loadcs (ds := stpCells x1) rfl Tryd.underlying30 rfl (by exact F.sz30) (fun j u hu => (HB.cell (p := ⟨gq, oq + (i - 1) * 5 + j, none⟩) hgq).trans (hc1 j u hu))) ?_
          refine Kw.WX_take rfl rfl rfl rfl (fun _ _ _ h => h) hS (fun _ ⟨A_gm, HB, _⟩ => Kw.R_move rfl) ?_
          refine Kw.WX_take rfl rfl rfl rfl (fun _ _ _ h => h) hS (fun _ ⟨A_gm, HB, _⟩ => Kw.R_move rfl) ?_
          refine Kw.WX_take rfl rfl rfl rfl (fun _ _ _ h => h) hS (fun _ ⟨A_gm, HB, _⟩ => Kw.R_indexAddrS (i := i) (o' := oq + i * 5) rfl rfl Tryd.underlying22 F.sz30 (by omega) (by omega)) ?_
          refine Kw.WX_take rfl rfl rfl rfl (fun _ _ _ h => h) hS (fun _ ⟨A_gm, HB, _⟩ => Kw.R_loadcs (ds := stpCells x) rfl Tryd.underlying30 rfl (by exact F.sz30) (fun j u hu => (HB.cell (p := ⟨gq, oq + i * 5 + j, none⟩) hgq).trans (hcx j u hu))) ?_
          refine Kw.WX_take rfl rfl rfl rfl (fun _ _ _ h => h) hS (fun _ ⟨A_gm, HB, _⟩ => Kw.R_move rfl) ?_
          refine Kw.WX_take rfl rfl rfl rfl (fun _ _ _ h => h) hS (fun _ ⟨A_gm, HB, _⟩ => Kw.R_move rfl) ?_
          refine Kw.WX_take rfl rfl rfl rfl (fun _ _ _ h => h) hS (fun _ ⟨A_gm, HB, _⟩ => Kw.R_sub (c := ((i - 1 : Nat) : Int)) rfl rfl (by rw [Kw.wrap_i64 (by omega)]; omega)) ?_
          refine Kw.WX_take rfl rfl rfl rfl (fun _ _ _ h => h) hS (fun _ ⟨A_gm, HB, _⟩ => Kw.R_indexAddrS (i := (i - 1 : Nat)) (o' := (i - 1) * 5) rfl rfl Tryd.underlying34 F.sz35 (by omega) (by omega)) ?_
          refine Kw.WX_take rfl rfl rfl rfl (fun _ _ _ h => h) hS (fun _ ⟨A_gm, HB, _⟩ => Kw.R_loadcs (ds := stpCells x1) rfl Tryd.underlying35 rfl (by exact F.sz35) (fun j u hu => by rw [A_gm.cell]; exact hm1 j u hu)) ?_
          refine Kw.WX_take rfl rfl rfl rfl (fun _ _ _ h => h) hS (fun _ ⟨A_gm, HB, _⟩ => Kw.R_move rfl) ?_
          refine Kw.WX_take rfl rfl rfl rfl (fun _ _ _ h => h) hS (fun _ ⟨A_gm, HB, _⟩ => Kw.R_move rfl) ?_
          refine Kw.WX_take rfl rfl rfl rfl (fun _ _ _ h => h) hS (fun _ ⟨A_gm, HB, _⟩ => Kw.R_indexAddrS (i := i) (o' := i * 5) rfl rfl Tryd.underlying34 F.sz35 (by omega) (by omega)) ?_
          refine Kw.WX_take rfl rfl rfl rfl (fun _ _ _ h => h) hS (fun _ ⟨A_gm, HB, _⟩ => Kw.R_loadcs (ds := stpCells x) rfl Tryd.underlying35 rfl (by exact F.sz35) (fun j u hu => by rw [A_gm.cell]; exact hm0 j u hu)) ?_
          refine Kw.WX_callc rfl rfl rfl rfl rfl F.cl10 rfl ((by have := same_c x1 x (okl x1 hx1l) (okl x hxl) w20 (GG.below HB); rw [hzz] at this; exact this)) ?_; intro w21 bw21
          clear hS
          replace A_gm := A_gm.call bw21
          replace HB := Kw.Below.then HB (Nat.le_refl _) bw21
          replace O_v34 := O_v34.call bw21
          have hS : Kw.At w21 gm curm 35 ∧ Below w.heap.size w w21 ∧ True := ⟨A_gm, HB, trivial⟩
          clear bw21
          refine ⟨hS, ?_⟩
          refine Kw.WX_callc rfl rfl rfl rfl rfl F.cl11 rfl ((by have := rsame_c x1 x (okl x1 hx1l) (okl x hxl) w21; rw [hzz] at this; exact this)) ?_; intro w22 bw22
          clear hS
          replace A_gm := A_gm.call bw22
          replace HB := Kw.Below.then HB (Nat.le_refl _) bw22
          replace O_v34 := O_v34.call bw22
          have hS : Kw.At w22 gm curm 35 ∧ Below w.heap.size w w22 ∧ True := ⟨A_gm, HB, trivial⟩
          clear bw22
          refine ⟨hS, ?_⟩
          refine Kw.WX_take rfl rfl rfl rfl (fun _ _ _ h => h) hS (fun _ ⟨A_gm, HB, _⟩ => Kw.R_neb (z := false) rfl rfl Tryd.underlying4 (by cases zz <;> rfl)) ?_
          refine Kw.WX_take rfl rfl rfl rfl (fun _ _ _ h => h) hS (fun _ ⟨A_gm, HB, _⟩ => Kw.R_pickt rfl rfl) ?_
          refine Kw.WX_nil ?_
          clear hS
          refine hK19 _ _ ?_; clear hK19 K19
          refine Kw.WC_false rfl ?_
          refine Kw.WC_skip ?_
          refine Kw.QN_block ?_
          refine hK15 _ _ ?_; clear hK15 K15
          refine Kw.WC_region [some 26, some 27, some 6] rfl ?_
          refine Kw.WL_v rfl rfl rfl (Kw.R_move rfl) ?_
          refine Kw.WL_v rfl rfl rfl (Kw.R_add (c := ((i + 1 : Nat) : Int)) rfl rfl (by rw [Kw.wrap_i64 (by omega)]; omega)) ?_
          refine Kw.WL_v rfl rfl rfl (Kw.R_assign rfl) ?_
          refine Kw.WL_nil ?_
          refine Kw.QN_round ((i + 1, .slice (some ⟨gm, 0, none⟩) (i + 1) capm)) ⟨by (try dsimp only); omega, O_v34, HB⟩ (by dsimp only; omega) (Kw.Sub.cons rfl (Kw.Sub.cons rfl (Kw.Sub.cons rfl (Kw.Sub.cons rfl Kw.Sub.nil))))
        ·
          refine Kw.WX_take rfl rfl rfl rfl (fun _ _ _ h => h) hS (fun _ ⟨A_gm, HB, _⟩ => Kw.R_gtr (z := false) rfl rfl (decide_eq_false c0)) ?_
          refine Kw.WX_take rfl rfl rfl rfl (fun _ _ _ h => h) hS (fun _ ⟨A_gm, HB, _⟩ => Kw.R_move rfl) ?_
          refine Kw.WX_off rfl rfl rfl rfl (fun _ _ _ h => h) hS ?_
          refine Kw.WX_off rfl rfl rfl rfl (fun _ _ _ h => h) hS ?_
          refine Kw.WX_off rfl rfl rfl rfl (fun _ _ _ h => h) hS ?_
          refine Kw.WX_off rfl rfl rfl rfl (fun _ _ _ h => h) hS ?_
          refine Kw.WX_off rfl rfl rfl rfl (fun _ _ _ h => h) hS ?_
          refine Kw.WX_off rfl rfl rfl rfl (fun _ _ _ h => h) hS ?_
          refine Kw.WX_off rfl rfl rfl rfl (fun _ _ _ h => h) hS ?_
          refine Kw.WX_off rfl rfl rfl rfl (fun _ _ _ h => h) hS ?_
          refine Kw.WX_off rfl rfl rfl rfl (fun _ _ _ h => h) hS ?_
          refine Kw.WX_off rfl rfl rfl rfl (fun _ _ _ h => h) hS ?_
          refine Kw.WX_off rfl rfl rfl rfl (fun _ _ _ h => h) hS ?_
          refine Kw.WX_off rfl rfl rfl rfl (fun _ _ _ h => h) hS ?_
          refine Kw.WX_off rfl rfl rfl rfl (fun _ _ _ h => h) hS ?_
          refine Kw.WX_off rfl rfl rfl rfl (fun _ _ _ h => h) hS ?_
          refine Kw.WX_off rfl rfl rfl rfl (fun _ _ _ h => h) hS ?_
          refine Kw.WX_off rfl rfl rfl rfl (fun _ _ _ h => h) hS ?_
          refine Kw.WX_off rfl rfl rfl rfl (fun _ _ _ h => h) hS ?_
          refine Kw.WX_off rfl rfl rfl rfl (fun _ _ _ h => h) hS ?_
          refine WX_off1 rfl rfl rfl rfl hS ?_
          refine WX_off1 rfl rfl rfl rfl hS ?_
          refine Kw.WX_off rfl rfl rfl rfl (fun _ _ _ h => h) hS ?_
          refine Kw.WX_take rfl rfl rfl rfl (fun _ _ _ h => h) hS (fun _ ⟨A_gm, HB, _⟩ => Kw.R_pickf rfl rfl) ?_
          refine Kw.WX_nil ?_
          clear hS
          refine hK19 _ _ ?_; clear hK19 K19
          refine Kw.WC_false rfl ?_
          refine Kw.WC_skip ?_
          refine Kw.QN_block ?_
          refine hK15 _ _ ?_; clear hK15 K15
          refine Kw.WC_region [some 26, some 27, some 6] rfl ?_
          refine Kw.WL_v rfl rfl rfl (Kw.R_move rfl) ?_
          refine Kw.WL_v rfl rfl rfl (Kw.R_add (c := ((i + 1 : Nat) : Int)) rfl rfl (by rw [Kw.wrap_i64 (by omega)]; omega)) ?_
          refine Kw.WL_v rfl rfl rfl (Kw.R_assign rfl) ?_
          refine Kw.WL_nil ?_
          refine Kw.QN_round ((i + 1, .slice (some ⟨gm, 0, none⟩) (i + 1) capm)) ⟨by (try dsimp only); omega, O_v34, HB⟩ (by dsimp only; omega) (Kw.Sub.cons rfl (Kw.Sub.cons rfl (Kw.Sub.cons rfl (Kw.Sub.cons rfl Kw.Sub.nil))))
      ·
        refine Kw.WL_v rfl rfl rfl (Kw.R_lss (z := false) rfl rfl (decide_eq_false c14)) ?_
        obtain rfl : i = l.length := by omega
        rw [List.take_length] at O_vm
        refine Kw.WL_nil ?_
        refine hK13 _ _ ?_; clear hK13 K13
        refine Kw.WC_false rfl ?_
        refine Kw.WC_exit ?_
        refine Kw.QE_then ?_; clear hK12 K12
        refine Kw.QE_then ?_
        refine Kw.QE_here ?_
        refine hK9 _ _ ?_; clear hK9 K9
        refine Kw.WC_seq (fun K24 hK24 => ?_)
        refine Kw.WC_region [some 61, some 62, some 60, some 63, some 64, some 65, some 7, some 8, some 9] rfl ?_
        refine Kw.WL_v rfl rfl rfl (Kw.R_move rfl) ?_
        refine Kw.WL_call rfl rfl rfl rfl F.cl9 rfl (get_c s (by omega) w11 (GG.below HB)) ?_; rintro _ w25 ⟨⟨va, rfl, O_va⟩, bw25⟩
        replace O_vm := O_vm.call bw25
        replace O_va := O_va.mono HB.size
        replace HB := Kw.Below.then HB (Nat.le_refl _) bw25
        clear bw25
        have hgi := getL_inv s.data.toList
        obtain ⟨lst, hls⟩ : ∃ x, (getL s.data.toList).1 = x := ⟨_, rfl⟩
        obtain ⟨ln, hln⟩ : ∃ x, (getL s.data.toList).2.1 = x := ⟨_, rfl⟩
        obtain ⟨er, her⟩ : ∃ x, (getL s.data.toList).2.2 = x := ⟨_, rfl⟩
        rw [hls, hln, her] at hgi
        rw [hls] at O_va
        rw [hln, her]
        have hoks : ∀ y ∈ lst, okS y ∧ y.t.size ≤ 10000000 := by
          rcases hgi with ⟨_, _, h, _⟩ | ⟨_, _, _, h, _⟩
          · rw [h]; intro y hy; cases hy
          · exact fun y hy => ⟨(h y hy).1, Nat.le_trans (h y hy).2 (by rw [size_list]; omega)⟩
        have hlsl : lst.length ≤ s.size := by
          rcases hgi with ⟨_, _, h, _⟩ | ⟨_, _, _, _, h⟩
          · rw [h]; exact Nat.zero_le _
          · rw [size_list] at h; exact h
        have hdis : er = 0 ∨ lst.length = 0 := by
          rcases hgi with ⟨_, _, h, _⟩ | ⟨h, _⟩
          · right; rw [h]; rfl
          · exact .inl h
        clear hgi
        refine Kw.WL_v rfl rfl rfl (Kw.R_move rfl) ?_
        refine Kw.WL_v rfl rfl rfl (Kw.R_extract (v := va) rfl rfl) ?_
        refine Kw.WL_v rfl rfl rfl (Kw.R_extract (v := .int .i64 (ln : Int)) rfl rfl) ?_
        refine Kw.WL_v rfl rfl rfl (Kw.R_extract (v := .int .i64 (er : Int)) rfl rfl) ?_
        refine Kw.WL_v rfl rfl rfl (Kw.R_assign rfl) ?_
        refine Kw.WL_v rfl rfl rfl (Kw.R_assign rfl) ?_
        refine Kw.WL_v rfl rfl rfl (Kw.R_assign rfl) ?_
        refine Kw.WL_nil ?_
        refine hK24 _ _ ?_; clear hK24 K24
        refine Kw.WC_sub (l' := [(0, .slice p l.length c), (1, .string s), (5, vm), (7, va), (8, .int .i64 (ln : Int)), (9, .int .i64 (er : Int))]) (Kw.Sub.cons rfl (Kw.Sub.cons rfl (Kw.Sub.cons rfl (Kw.Sub.cons rfl (Kw.Sub.cons rfl (Kw.Sub.cons rfl Kw.Sub.nil)))))) ?_
        refine Kw.WC_seq (fun K26 hK26 => ?_)
        refine Kw.WC_region [some 67, some 68, some 66, some 69, some 70, some 71, some 10, some 11, some 12] rfl ?_
        refine Kw.WL_v rfl rfl rfl (Kw.R_move rfl) ?_
        refine Kw.WL_call rfl rfl rfl rfl F.cl12 rfl (by have := rget_c s (by omega) w25; rw [hls, hln, her] at this; exact this) ?_; rintro _ w27 ⟨⟨vb, rfl, O_vb⟩, bw27⟩
        replace O_vm := O_vm.call bw27
        replace O_va := O_va.call bw27
        replace O_vb := O_vb.mono HB.size
        replace HB := Kw.Below.then HB (Nat.le_refl _) bw27
        clear bw27
        refine Kw.WL_v rfl rfl rfl (Kw.R_move rfl) ?_
        refine Kw.WL_v rfl rfl rfl (Kw.R_extract (v := vb) rfl rfl) ?_
        refine Kw.WL_v rfl rfl rfl (Kw.R_extract (v := .int .i64 (ln : Int)) rfl rfl) ?_
        refine Kw.WL_v rfl rfl rfl (Kw.R_extract (v := .int .i64 (er : Int)) rfl rfl) ?_
        refine Kw.WL_v rfl rfl rfl (Kw.R_assign rfl) ?_
        refine Kw.WL_v rfl rfl rfl (Kw.R_assign rfl) ?_
        refine Kw.WL_v rfl rfl rfl (Kw.R_assign rfl) ?_
        refine Kw.WL_nil ?_
        refine hK26 _ _ ?_; clear hK26 K26
        refine Kw.WC_sub (l' := [(0, .slice p l.length c), (5, vm), (7, va), (8, .int .i64 (ln : Int)), (9, .int .i64 (er : Int)), (10, vb), (11, .int .i64 (ln : Int)), (12, .int .i64 (er : Int))]) (Kw.Sub.cons rfl (Kw.Sub.cons rfl (Kw.Sub.cons rfl (Kw.Sub.cons rfl (Kw.Sub.cons rfl (Kw.Sub.cons rfl (Kw.Sub.cons rfl (Kw.Sub.cons rfl Kw.Sub.nil)))))))) ?_
        refine Kw.WC_seq (fun K28 hK28 => ?_)
        refine Kw.WC_seq (fun K29 hK29 => ?_)
        refine Kw.WC_region [some 72, some 73, some 74, some 75, some 76, some 77, some 78, some 79, some 80, some 81, some 82, some 83, some 84, some 85, some 86, some 87, some 88, some 89, some 90, some 91, some 92, some 93] rfl ?_
        refine Kw.WL_v rfl rfl rfl (Kw.R_move rfl) ?_
        refine Kw.WL_callc rfl rfl rfl rfl F.cl8 rfl (put_c _ l okl (by omega) (by omega) w27 (GG.below HB) (hS.below HB)) ?_; intro w30 bw30
        replace HB := Kw.Below.then HB (Nat.le_refl _) bw30
        replace O_vm := O_vm.call bw30
        replace O_va := O_va.call bw30
        replace O_vb := O_vb.call bw30
        clear bw30
        refine Kw.WL_v rfl rfl rfl (Kw.R_move rfl) ?_
        refine Kw.WL_callc rfl rfl rfl rfl F.cl13 rfl (rput_c _ l okl (by omega) (by omega) w30 (Steps.own35 O_vm rfl)) ?_; intro w31 bw31
        replace HB := Kw.Below.then HB (Nat.le_refl _) bw31
        replace O_vm := O_vm.call bw31
        replace O_va := O_va.call bw31
        replace O_vb := O_vb.call bw31
        clear bw31
        refine Kw.WL_v rfl rfl rfl (Kw.R_nes (z := false) rfl rfl (decide_eq_true rfl)) ?_
        refine Kw.WL_v rfl rfl rfl (Kw.R_move rfl) ?_
        refine Kw.WL_v rfl rfl rfl (Kw.R_move rfl) ?_
        refine Kw.WL_v rfl rfl rfl (Kw.R_move rfl) ?_
        refine Kw.WL_v rfl rfl rfl (Kw.R_nei (z := false) rfl rfl (decide_eq_true rfl)) ?_
        refine Kw.WL_v rfl rfl rfl (Kw.R_pickf rfl rfl) ?_
        refine Kw.WL_v rfl rfl rfl (Kw.R_move rfl) ?_
        refine Kw.WL_v rfl rfl rfl (Kw.R_move rfl) ?_
        refine Kw.WL_v rfl rfl rfl (Kw.R_move rfl) ?_
        refine Kw.WL_v rfl rfl rfl (Kw.R_nei (z := false) rfl rfl (decide_eq_true rfl)) ?_
        refine Kw.WL_v rfl rfl rfl (Kw.R_pickf rfl rfl) ?_
        refine Kw.WL_v rfl rfl rfl (Kw.R_move rfl) ?_
        refine Kw.WL_v rfl rfl rfl (Kw.R_move rfl) ?_
        refine Kw.WL_v rfl rfl rfl (Kw.R_leno Tryd.underlying22 rfl O_va) ?_
        refine Kw.WL_v rfl rfl rfl (Kw.R_move rfl) ?_
        refine Kw.WL_v rfl rfl rfl (Kw.R_leno Tryd.underlying34 rfl O_vb) ?_
        refine Kw.WL_v rfl rfl rfl (Kw.R_nei (z := false) rfl rfl (decide_eq_true rfl)) ?_
        refine Kw.WL_v rfl rfl rfl (Kw.R_pickf rfl rfl) ?_
        refine Kw.WL_nil ?_
        refine hK29 _ _ ?_; clear hK29 K29
        refine Kw.WC_sub (l' := [(7, va), (9, .int .i64 (er : Int)), (10, vb), (93, .bool false)]) (Kw.Sub.cons rfl (Kw.Sub.cons rfl (Kw.Sub.cons rfl (Kw.Sub.cons rfl Kw.Sub.nil)))) ?_
        refine Kw.WC_false rfl ?_
        refine Kw.WC_skip ?_
        refine hK28 _ _ ?_; clear hK28 K28
        refine Kw.WC_seq (fun K32 hK32 => ?_)
        refine Kw.WC_seq (fun K33 hK33 => ?_)
        refine Kw.WC_region [some 13] rfl ?_
        refine Kw.WL_v rfl rfl rfl (Kw.R_assign rfl) ?_
        refine Kw.WL_nil ?_
        refine hK33 _ _ ?_; clear hK33 K33
        refine Kw.WC_block ?_
        refine Kw.WC_loop (ι := Nat) (fun (i : Nat) (ww : World) => (i ≤ lst.length) ∧ Kw.Own ww w.heap.size 35 5 vm l.length (stpsV l) ∧ Kw.Own ww w.heap.size 30 5 va lst.length (stpsV lst) ∧ Kw.Own ww w.heap.size 35 5 vb lst.length (stpsV lst) ∧ Below w.heap.size w ww) (fun (i : Nat) => [(7, va), (9, .int .i64 (er : Int)), (10, vb), (13, .int .i64 (i : Int))]) (fun (i : Nat) => lst.length - i) 0 ⟨Nat.zero_le _, O_vm, O_va, O_vb, HB⟩ (Kw.Sub.cons rfl (Kw.Sub.cons rfl (Kw.Sub.cons rfl (Kw.Sub.cons rfl Kw.Sub.nil)))) ?_
        clear O_vm
        clear O_va
        clear O_vb
        clear HB
        rintro i w34 ⟨hi, O_vm, O_va, O_vb, HB⟩
        refine Kw.WC_seq (fun K35 hK35 => ?_)
        refine Kw.WC_seq (fun K36 hK36 => ?_)
        refine Kw.WC_region [some 94, some 95, some 96, some 97] rfl ?_
        refine Kw.WL_v rfl rfl rfl (Kw.R_move rfl) ?_
        refine Kw.WL_v rfl rfl rfl (Kw.R_move rfl) ?_
        refine Kw.WL_v rfl rfl rfl (Kw.R_leno Tryd.underlying22 rfl O_va) ?_
        by_cases c37 : (i : Int) < (lst.length : Int)
        ·
          refine Kw.WL_v rfl rfl rfl (Kw.R_lss (z := true) rfl rfl (decide_eq_true c37)) ?_
          have hil : i < lst.length := by omega
          refine Kw.WL_nil ?_
          refine hK36 _ _ ?_; clear hK36 K36
          refine Kw.WC_true rfl ?_
          refine Kw.WC_skip ?_
          refine hK35 _ _ ?_; clear hK35 K35
          refine Kw.WC_seq (fun K38 hK38 => ?_)
          refine Kw.WC_block ?_
          refine Kw.WC_seq (fun K39 hK39 => ?_)
          obtain ⟨ga, capga, curga, hga, _, A_ga, _, _, _, h4ga⟩ : ∃ g cap cur, va = .slice (some ⟨g, 0, none⟩) lst.length cap ∧ w.heap.size ≤ g ∧ Kw.At w34 g cur 30 ∧ lst.length ≤ cap ∧ cap ≤ maxLen ∧ cur.size = cap * 5 ∧ cur.toList.take (lst.length * 5) = stpsV lst := O_va.2.resolve_left (fun h => by have := h.2; omega)
          subst hga
          obtain ⟨gb, capgb, curgb, hgb, _, A_gb, _, _, _, h4gb⟩ : ∃ g cap cur, vb = .slice (some ⟨g, 0, none⟩) lst.length cap ∧ w.heap.size ≤ g ∧ Kw.At w34 g cur 35 ∧ lst.length ≤ cap ∧ cap ≤ maxLen ∧ cur.size = cap * 5 ∧ cur.toList.take (lst.length * 5) = stpsV lst := O_vb.2.resolve_left (fun h => by have := h.2; omega)
          subst hgb
          obtain ⟨x, hx⟩ : ∃ x, x = lst[i]'hil := ⟨_, rfl⟩
          have hxo := hoks x (by rw [hx]; exact List.getElem_mem hil)
          refine Kw.WC_sched (fun ww => Kw.At ww ga curga 30 ∧ Kw.At ww gb curgb 35 ∧ True) [(0, true), (1, true), (2, true), (3, true), (4, true), (5, true), (6, true), (7, true), (8, true)] [some 100, some 101, some 102, some 103, some 104, some 105, some 106, some 107, some 108] rfl (by kernel_rfl) rfl (by kernel_rfl) ?_
          obtain ⟨w40, hww40⟩ : ∃ x : World, x = Go.World.drew w34 := ⟨_, rfl⟩
          rw [← hww40]
          replace A_ga : Kw.At w40 ga curga 30 := by rw [hww40]; exact A_ga
          replace A_gb : Kw.At w40 gb curgb 35 := by rw [hww40]; exact A_gb
          replace O_vm := O_vm.drew; rw [← hww40] at O_vm
          replace O_va := O_va.drew; rw [← hww40] at O_va
          replace O_vb := O_vb.drew; rw [← hww40] at O_vb
          replace HB : Below w.heap.size w w40 := by rw [hww40]; exact HB.drew
          clear hww40
          have hS : Kw.At w40 ga curga 30 ∧ Kw.At w40 gb curgb 35 ∧ True := ⟨A_ga, A_gb, trivial⟩
          refine Kw.WX_take rfl rfl rfl rfl (fun _ _ _ h => h) hS (fun _ ⟨A_ga, A_gb, _⟩ => Kw.R_move rfl) ?_
          refine Kw.WX_take rfl rfl rfl rfl (fun _ _ _ h => h) hS (fun _ ⟨A_ga, A_gb, _⟩ => Kw.R_move rfl) ?_
          refine Kw.WX_take rfl rfl rfl rfl (fun _ _ _ h => h) hS (fun _ ⟨A_ga, A_gb, _⟩ => Kw.R_indexAddrS (i := i) (o' := i * 5) rfl rfl Tryd.underlying22 F.sz30 (by omega) (by omega)) ?_
          refine Kw.WX_take rfl rfl rfl rfl (fun _ _ _ h => h) hS (fun _ ⟨A_ga, A_gb, _⟩ => Kw.R_loadcs (ds := stpCells x) rfl Tryd.underlying30 rfl (by exact F.sz30) (fun j u hu => by rw [A_ga.cell]; exact cells_own h4ga rfl hil (by rw [← hx]; exact hu))) ?_
          refine Kw.WX_take rfl rfl rfl rfl (fun _ _ _ h => h) hS (fun _ ⟨A_ga, A_gb, _⟩ => Kw.R_move rfl) ?_
          refine Kw.WX_take rfl rfl rfl rfl (fun _ _ _ h => h) hS (fun _ ⟨A_ga, A_gb, _⟩ => Kw.R_move rfl) ?_
          refine Kw.WX_take rfl rfl rfl rfl (fun _ _ _ h => h) hS (fun _ ⟨A_ga, A_gb, _⟩ => Kw.R_indexAddrS (i := i) (o' := i * 5) rfl rfl Tryd.underlying34 F.sz35 (by omega) (by omega)) ?_
          refine Kw.WX_take rfl rfl rfl rfl (fun _ _ _ h => h) hS (fun _ ⟨A_ga, A_gb, _⟩ => Kw.R_loadcs (ds := stpCells x) rfl Tryd.underlying35 rfl (by exact F.sz35) (fun j u hu => by rw [A_gb.cell]; exact cells_own h4gb rfl hil (by rw [← hx]; exact hu))) ?_
          refine Kw.WX_take rfl rfl rfl rfl (fun _ _ _ h => h) hS (fun _ ⟨A_ga, A_gb, _⟩ => R_ne35 (P' := Tryd.prog) hxo.1 hxo.2 rfl rfl) ?_
          refine Kw.WX_nil ?_
          clear hS
          refine hK39 _ _ ?_; clear hK39 K39
          refine Kw.WC_sub (l' := [(7, .slice (some ⟨ga, 0, none⟩) lst.length capga), (9, .int .i64 (er : Int)), (10, .slice (some ⟨gb, 0, none⟩) lst.length capgb), (13, .int .i64 (i : Int)), (108, .bool false)]) (Kw.Sub.cons rfl (Kw.Sub.cons rfl (Kw.Sub.cons rfl (Kw.Sub.cons rfl (Kw.Sub.cons rfl Kw.Sub.nil))))) ?_
          refine Kw.WC_false rfl ?_
          refine Kw.WC_skip ?_
          refine Kw.QN_block ?_
          refine hK38 _ _ ?_; clear hK38 K38
          refine Kw.WC_region [some 98, some 99, some 13] rfl ?_
          refine Kw.WL_v rfl rfl rfl (Kw.R_move rfl) ?_
          refine Kw.WL_v rfl rfl rfl (Kw.R_add (c := ((i + 1 : Nat) : Int)) rfl rfl (by rw [Kw.wrap_i64 (by omega)]; omega)) ?_
          refine Kw.WL_v rfl rfl rfl (Kw.R_assign rfl) ?_
          refine Kw.WL_nil ?_
          refine Kw.QN_round (i + 1) ⟨by omega, O_vm, O_va, O_vb, HB⟩ (by omega) (Kw.Sub.cons rfl (Kw.Sub.cons rfl (Kw.Sub.cons rfl (Kw.Sub.cons rfl Kw.Sub.nil))))
        ·
          refine Kw.WL_v rfl rfl rfl (Kw.R_lss (z := false) rfl rfl (decide_eq_false c37)) ?_
          refine Kw.WL_nil ?_
          refine hK36 _ _ ?_; clear hK36 K36
          refine Kw.WC_false rfl ?_
          refine Kw.WC_exit ?_
          refine Kw.QE_then ?_; clear hK35 K35
          refine Kw.QE_then ?_
          refine Kw.QE_here ?_
          refine hK32 _ _ ?_; clear hK32 K32
          refine Kw.WC_sub (l' := [(7, va), (9, .int .i64 (er : Int))]) (Kw.Sub.cons rfl (Kw.Sub.cons rfl Kw.Sub.nil)) ?_
          refine Kw.WC_seq (fun K41 hK41 => ?_)
          refine Kw.WC_region [some 109, some 110, some 111, some 112, some 113, some 114, some 115, some 116, some 117, some 118, some 4] rfl ?_
          refine Kw.WL_v rfl rfl rfl (Kw.R_move rfl) ?_
          by_cases ce : (er : Int) = 0
          ·
            refine Kw.WL_v rfl rfl rfl (Kw.R_eqi (z := true) rfl rfl (decide_eq_true ce)) ?_
            refine Kw.WL_v rfl rfl rfl (Kw.R_move rfl) ?_
            refine Kw.WL_off rfl rfl rfl ?_
            refine Kw.WL_off rfl rfl rfl ?_
            refine Kw.WL_off rfl rfl rfl ?_
            refine Kw.WL_v rfl rfl rfl (Kw.R_pickt rfl rfl) ?_
            refine Kw.WL_v rfl rfl rfl (Kw.R_move rfl) ?_
            refine Kw.WL_callc rfl rfl rfl rfl F.cl7 rfl (written_c w34 (GG.below HB)) ?_; intro w42 bw42
            replace HB := Kw.Below.then HB (Nat.le_refl _) bw42
            replace O_vm := O_vm.call bw42
            replace O_va := O_va.call bw42
            replace O_vb := O_vb.call bw42
            clear bw42
            refine Kw.WL_v rfl rfl rfl (Kw.R_pickt rfl rfl) ?_
            refine Kw.WL_v rfl rfl rfl (Kw.R_assign rfl) ?_
            refine Kw.WL_nil ?_
            refine hK41 _ _ ?_; clear hK41 K41
            refine Kw.WC_sub (l' := [(4, .bool true)]) (Kw.Sub.cons rfl Kw.Sub.nil) ?_
            refine Kw.WC_ret ?_
            exact Kw.post_ret1 rfl rfl ⟨rfl, HB⟩
          ·
            refine Kw.WL_v rfl rfl rfl (Kw.R_eqi (z := false) rfl rfl (decide_eq_false ce)) ?_
            refine Kw.WL_v rfl rfl rfl (Kw.R_move rfl) ?_
            refine Kw.WL_v rfl rfl rfl (Kw.R_move rfl) ?_
            refine Kw.WL_v rfl rfl rfl (Kw.R_leno Tryd.underlying22 rfl O_va) ?_
            refine Kw.WL_v rfl rfl rfl (Kw.R_eqi (z := true) rfl rfl (decide_eq_true (by omega))) ?_
            refine Kw.WL_v rfl rfl rfl (Kw.R_pickf rfl rfl) ?_
            refine Kw.WL_v rfl rfl rfl (Kw.R_move rfl) ?_
            refine Kw.WL_callc rfl rfl rfl rfl F.cl7 rfl (written_c w34 (GG.below HB)) ?_; intro w43 bw43
            replace HB := Kw.Below.then HB (Nat.le_refl _) bw43
            replace O_vm := O_vm.call bw43
            replace O_va := O_va.call bw43
            replace O_vb := O_vb.call bw43
            clear bw43
            refine Kw.WL_v rfl rfl rfl (Kw.R_pickt rfl rfl) ?_
            refine Kw.WL_v rfl rfl rfl (Kw.R_assign rfl) ?_
            refine Kw.WL_nil ?_
            refine hK41 _ _ ?_; clear hK41 K41
            refine Kw.WC_sub (l' := [(4, .bool true)]) (Kw.Sub.cons rfl Kw.Sub.nil) ?_
            refine Kw.WC_ret ?_
            exact Kw.post_ret1 rfl rfl ⟨rfl, HB⟩
  ·
    refine Kw.WL_v rfl rfl rfl (Kw.R_move rfl) ?_
    refine Kw.WL_off rfl rfl rfl ?_
    refine Kw.WL_off rfl rfl rfl ?_
    refine Kw.WL_off rfl rfl rfl ?_
    refine Kw.WL_v rfl rfl rfl (Kw.R_pickt rfl rfl) ?_
    refine Kw.WL_nil ?_
    refine hK3 _ _ ?_; clear hK3 K3
    refine Kw.WC_sub (l' := [(0, .slice p l.length c), (1, .string s), (20, .bool true)]) (Kw.Sub.cons rfl (Kw.Sub.cons rfl (Kw.Sub.cons rfl Kw.Sub.nil))) ?_
    refine Kw.WC_true rfl ?_
    refine Kw.WC_seq (fun K44 hK44 => ?_)
    refine Kw.WC_region [some 21, some 4] rfl ?_
    refine Kw.WL_callc rfl rfl rfl rfl F.cl7 rfl (written_c w4 (GG.below HB)) ?_; intro w45 bw45
    replace HB := Kw.Below.then HB (Nat.le_refl _) bw45
    clear bw45
    refine Kw.WL_v rfl rfl rfl (Kw.R_assign rfl) ?_
    refine Kw.WL_nil ?_
    refine hK44 _ _ ?_; clear hK44 K44
    refine Kw.WC_ret ?_
    refine Kw.QR_then ?_; clear hK2 K2
    exact Kw.post_ret1 rfl rfl ⟨rfl, HB⟩
end Go.Proofs.YtpggmnomcahijaaDoor.Fn
