/- The reference's Set. -/
import Derived.Test.YtidoilcgdfhfiaaTm8
import Derived.Test.YtidoilcgdfhfiaaKw9
namespace Go.Proofs.Ytidoilcgdfhfiaa.Fn
open Go Go.Proofs Go.RowKit
set_option linter.unusedVariables false
set_option linter.unusedSimpArgs false
section
variable {P : Program} {l : Kw.Env} {w : World} {D : Option Tmp} {T : TypeId} {S : String} {F : Array Edge} {g : Option (Nat × Bool)} {t e s : Nat} {x y : Operand} {k : IntKind}
theorem R_nilhi (hx : Kw.ev l x = some (.slice none 0 0)) (hy : Kw.ev l y = some (.int k 0)) (hu : P.underlying t = some (.slice e)) (hs : Kw.sizeIs P e s) :
    Kw.Runs P l ⟨D, .slice t x none (some y) none, T, S, F, g⟩ w (.slice none 0 0) w := fun ρ h => by
  show (do pure (Next.value (← Instr.sliceAt t (ρ x) (Option.map ρ none) (Option.map ρ (some y)) (Option.map ρ none))) : Sem Next).run P w = _
  rw [h x _ hx]
  refine Kw.run_value ?_
  have hb := Kw.run_bounds (P := P) (w := w) h (isS := true) (len := 0) (cap := 0) (i := 0) (j := 0) (m := 0) (lo := none) (hi := some y) (mx := none) rfl ⟨k, hy⟩ rfl (Nat.le_refl _) (Nat.le_refl _) (Nat.le_refl _) rfl
  simp only [Instr.sliceAt, Instr.slice, Sem.run_bind, run_underlying hu, Result.andThen_ok, hb, Kw.run_sizeOf hs w, Sem.run_pure]
  rfl
theorem R_nillo (hx : Kw.ev l x = some (.slice none 0 0)) (hy : Kw.ev l y = some (.int k 0)) (hu : P.underlying t = some (.slice e)) (hs : Kw.sizeIs P e s) :
    Kw.Runs P l ⟨D, .slice t x (some y) none none, T, S, F, g⟩ w (.slice none 0 0) w := fun ρ h => by
  show (do pure (Next.value (← Instr.sliceAt t (ρ x) (Option.map ρ (some y)) (Option.map ρ none) (Option.map ρ none))) : Sem Next).run P w = _
  rw [h x _ hx]
  refine Kw.run_value ?_
  have hb := Kw.run_bounds (P := P) (w := w) h (isS := true) (len := 0) (cap := 0) (i := 0) (j := 0) (m := 0) (lo := some y) (hi := none) (mx := none) ⟨k, hy⟩ rfl rfl (Nat.le_refl _) (Nat.le_refl _) (Nat.le_refl _) rfl
  simp only [Instr.sliceAt, Instr.slice, Sem.run_bind, run_underlying hu, Result.andThen_ok, hb, Kw.run_sizeOf hs w, Sem.run_pure]
  rfl
end
theorem OwnAt3 {w : World} {B e g n cap : Nat} {xs : List Value} (h : Kw.Own w B e 3 (.slice (some ⟨g, 0, none⟩) n cap) n xs) : ∃ cur, Kw.At w g cur e ∧ n ≤ cap ∧ cap ≤ maxLen ∧ cur.toList.take (n * 3) = xs ∧ B ≤ g := by
  rcases h.2 with ⟨h1, _⟩ | ⟨g', cap', cur, h1, h2, h3, h4, h5, _, h6⟩
  · cases h1
  · obtain ⟨rfl, rfl⟩ : g' = g ∧ cap' = cap := by
      simp only [Value.slice.injEq, Option.some.injEq, Addr.mk.injEq] at h1
      exact ⟨h1.1.1.symm, h1.2.2.symm⟩
    exact ⟨cur, h3, h4, h5, h6, h2⟩

theorem flatT_onec (R : List ((Int × Int) × Int)) : ∀ u ∈ flatT R, u.oneCell' = true := fun u hu => by
  unfold flatT cellsT at hu
  rw [List.mem_flatMap] at hu
  obtain ⟨p, _, hp⟩ := hu
  simp at hp
  rcases hp with rfl | rfl | rfl <;> rfl
theorem takeT {cur : Array Value} {C : List ((Int × Int) × Int)} {i : Nat} (h : cur.toList.take (C.length * 3) = flatT C) (hi : i ≤ C.length) : cur.toList.take (i * 3) = flatT (C.take i) := by
  rw [← flatT_take, ← h, List.take_take]
  congr 1; omega
theorem pieceT {cur : Array Value} {C : List ((Int × Int) × Int)} {i cap o : Nat} (h : cur.toList.take (C.length * 3) = flatT C) (hc : C.length ≤ cap) (hi : i ≤ C.length) (ho : (if cap = i then 0 else 0 + i * 3) = o) : (cur.toList.drop o).take ((C.length - i) * 3) = flatT (C.drop i) := by
  have := Kw.piece (cur := cur.toList) (o := 0) (len := C.length) (i := i) (j := C.length) (m := cap) (s := 3) (o' := o) (xs := flatT C) (by rw [List.drop_zero]; exact h) hi (Nat.le_refl _) hc ho
  rw [this, flatT_drop, List.take_of_length_le (by rw [flatT_length, List.length_drop]; exact Nat.le_refl _)]
/-- A timer in its place. -/
def insT (C : List ((Int × Int) × Int)) (i : Nat) (x : (Int × Int) × Int) : List ((Int × Int) × Int) := C.take i ++ x :: C.drop i
theorem insT_app (C : List ((Int × Int) × Int)) (i : Nat) (x : (Int × Int) × Int) : insT C i x = C.take i ++ [x] ++ C.drop i := by unfold insT; simp

set_option maxRecDepth 100000 in
set_option maxHeartbeats 4000000 in
theorem refset_c (R : List ((Int × Int) × Int)) (hokR : ∀ p ∈ R, okK p.1) (hsz : R.length ≤ 900000) (v0 : Value) (k : Int × Int) (hk : okK k) (a : Int) (w : World) (S0 : RdT w v0 R) : Calls Try.prog 16 #[v0, keyV k, .int .i64 a] w (Kw.Back fun v w' => (∃ i, i ≤ (clearL R k).length ∧ (∀ p ∈ (clearL R k).take i, ltT p (k, a)) ∧ (∀ h : i < (clearL R k).length, ¬ ltT ((clearL R k)[i]'h) (k, a)) ∧ Kw.Own w' w.heap.size 59 3 v (insT (clearL R k) i (k, a)).length (flatT (insT (clearL R k) i (k, a)))) ∧ Below w.heap.size w w') := by
  have HB : Below w.heap.size w w := Below.refl _ _
  refine Kw.enter Try.func16 rfl Try.ntmps16 rfl rfl ?_
  refine Kw.WC_seq (fun K1 hK1 => ?_)
  refine Kw.WC_region [some 4, some 6] rfl ?_
  refine Kw.WL_box rfl rfl rfl ?_; intro gk w2 N_gk
  have A_gk : Kw.At w2 gk #[.int .i64 k.1, .int .i64 k.2] 28 := N_gk.at_
  have G_gk := N_gk.ge HB (Nat.le_refl _); replace HB := N_gk.below HB (Nat.le_refl _); clear N_gk
  refine Kw.WL_v rfl rfl rfl (Kw.R_assign rfl) ?_
  refine Kw.WL_nil ?_
  refine hK1 _ _ ?_; clear hK1 K1
  refine Kw.WC_seq (fun K3 hK3 => ?_)
  refine Kw.WC_region [some 9, some 10, some 11, some 0] rfl ?_
  refine Kw.WL_v rfl rfl rfl (Kw.R_move rfl) ?_
  refine Kw.WL_v rfl rfl rfl (Kw.R_loadW rfl Try.underlying28 rfl (by exact F.sz28) A_gk) ?_
  obtain ⟨C, hC⟩ : ∃ C, C = clearL R k := ⟨_, rfl⟩
  have hCl := clearL_len R k; rw [← hC] at hCl
  have hcc := refclear_c R hokR (by omega) v0 k hk w2 (S0.call HB)
  rw [← hC] at hcc
  refine Kw.WL_call rfl rfl rfl rfl F.cl12 rfl hcc ?_; rintro vc w4 ⟨O_vc, bw4⟩
  have D_vc_gk : Kw.ob vc ≠ some gk := fun e => absurd (O_vc.ge e) (Nat.not_le_of_lt A_gk.lt); replace A_gk := A_gk.call bw4
  replace O_vc := O_vc.mono HB.size
  replace HB := Kw.Below.then HB (Nat.le_refl _) bw4; clear bw4 hcc
  refine Kw.WL_v rfl rfl rfl (Kw.R_assign rfl) ?_
  refine Kw.WL_nil ?_
  refine hK3 _ _ ?_; clear hK3 K3
  refine Kw.WC_seq (fun K5 hK5 => ?_)
  refine Kw.WC_region [some 12, some 13, some 14, some 7, none] rfl ?_
  refine Kw.WL_v rfl rfl rfl (Kw.R_loadW rfl Try.underlying28 rfl (by exact F.sz28) A_gk) ?_
  refine Kw.WL_v rfl rfl rfl (Kw.R_move rfl) ?_
  refine Kw.WL_v rfl rfl rfl (Kw.R_build (cs := #[.int .i64 k.1, .int .i64 k.2, .int .i64 a]) rfl (fun w => by kernel_rfl)) ?_
  refine Kw.WL_alloc rfl rfl F.zr59 ?_; intro gx w6 N_gx
  have L_gk_gx := N_gx.ne A_gk; replace A_gk := N_gx.keep A_gk
  have A_gx : Kw.At w6 gx F.Z59 59 := N_gx.at_
  have D_vc_gx := O_vc.ne_new N_gx; replace O_vc := O_vc.new N_gx
  have G_gx := N_gx.ge HB (Nat.le_refl _); replace HB := N_gx.below HB (Nat.le_refl _); clear N_gx
  refine Kw.WL_storeW rfl rfl rfl (by exact F.sz59) A_gx rfl rfl ?_; intro w7 M_gx
  replace A_gk := M_gx.keep A_gk (Nat.ne_of_lt L_gk_gx)
  replace A_gx : Kw.At w7 gx #[.int .i64 k.1, .int .i64 k.2, .int .i64 a] 59 := M_gx.at_ A_gx
  replace O_vc := O_vc.wrote M_gx D_vc_gx
  replace HB := M_gx.below HB G_gx; clear M_gx
  refine Kw.WL_nil ?_
  refine hK5 _ _ ?_; clear hK5 K5
  refine Kw.WC_sub (l' := [(0, vc), (7, .pointer (some ⟨gx, 0, none⟩))]) (Kw.Sub.cons rfl (Kw.Sub.cons rfl Kw.Sub.nil)) ?_
  refine Kw.WC_seq (fun K8 hK8 => ?_)
  refine Kw.WC_region [some 8] rfl ?_
  refine Kw.WL_v rfl rfl rfl (Kw.R_assign rfl) ?_
  refine Kw.WL_nil ?_
  refine hK8 _ _ ?_; clear hK8 K8
  refine Kw.WC_seq (fun K9 hK9 => ?_)
  refine Kw.WC_block ?_
  refine Kw.WC_loop (ι := Nat) (fun (i : Nat) (ww : World) => (i ≤ C.length ∧ ∀ p ∈ C.take i, ltT p (k, a)) ∧ Kw.At ww gk #[.int .i64 k.1, .int .i64 k.2] 28 ∧ Kw.At ww gx #[.int .i64 k.1, .int .i64 k.2, .int .i64 a] 59 ∧ Kw.Own ww w.heap.size 59 3 vc C.length (flatT C) ∧ Below w.heap.size w ww) (fun (i : Nat) => [(0, vc), (7, .pointer (some ⟨gx, 0, none⟩)), (8, .int .i64 (i : Int))]) (fun (i : Nat) => C.length - i) 0 ⟨⟨Nat.zero_le _, fun p hp => by cases hp⟩, A_gk, A_gx, O_vc, HB⟩ (Kw.Sub.cons rfl (Kw.Sub.cons rfl (Kw.Sub.cons rfl Kw.Sub.nil))) ?_
  clear A_gk
  clear A_gx
  clear O_vc
  clear HB
  rintro i w10 ⟨⟨hi, hq⟩, A_gk, A_gx, O_vc, HB⟩
  refine Kw.WC_seq (fun K11 hK11 => ?_)
  refine Kw.WC_seq (fun K12 hK12 => ?_)
  refine Kw.WC_still 10 [some 15, some 16, some 17, some 18, some 19, some 20, some 21, some 22, some 23, some 24, some 25, some 26] rfl (by kernel_rfl) (by kernel_rfl) ?_
  simp only [List.take_succ_cons, List.take_zero, List.drop_succ_cons, List.drop_zero]
  obtain ⟨w13, hww13⟩ : ∃ x : World, x = Go.World.drew w10 := ⟨_, rfl⟩
  rw [← hww13]
  replace A_gk : Kw.At w13 gk #[.int .i64 k.1, .int .i64 k.2] 28 := by rw [hww13]; exact A_gk
  replace A_gx : Kw.At w13 gx #[.int .i64 k.1, .int .i64 k.2, .int .i64 a] 59 := by rw [hww13]; exact A_gx
  replace O_vc := O_vc.drew; rw [← hww13] at O_vc
  replace HB : Below w.heap.size w w13 := by rw [hww13]; exact HB.drew
  clear hww13
  refine Kw.WS_v rfl rfl rfl (Kw.R_move rfl) ?_
  refine Kw.WS_v rfl rfl rfl (Kw.R_move rfl) ?_
  refine Kw.WS_v rfl rfl rfl (Kw.R_leno Try.underlying38 rfl O_vc) ?_
  by_cases c14 : (i : Int) < (C.length : Int)
  ·
    refine Kw.WS_v rfl rfl rfl (Kw.R_lss (z := true) rfl rfl (decide_eq_true c14)) ?_
    refine Kw.WS_v rfl rfl rfl (Kw.R_move rfl) ?_
    refine Kw.WS_v rfl rfl rfl (Kw.R_move rfl) ?_
    refine Kw.WS_v rfl rfl rfl (Kw.R_move rfl) ?_
    have hi2 : i < C.length := by omega
    obtain ⟨p, hp⟩ : ∃ p, p = C[i]'hi2 := ⟨_, rfl⟩
    obtain ⟨gc, capc, curc, rfl, hBc, A_gc, hcc, hsc, htc⟩ := O_vc.open (by omega)
    obtain ⟨hz1, hz2, hz3, hz4⟩ := rdT_at (o := 0) (by rw [List.drop_zero]; exact htc) hi2
    rw [← hp] at hz2 hz3 hz4; rw [Nat.zero_add] at hz1 hz3
    refine Kw.WS_v rfl rfl rfl (Kw.R_indexAddrS (i := i) (b := gc) (o := 0) (o' := i * 3) rfl rfl Try.underlying38 F.sz59 (by omega) (by omega)) ?_
    refine Kw.WS_v rfl rfl rfl (Kw.R_loadN (ds := #[.int .i64 p.1.1, .int .i64 p.1.2, .int .i64 p.2]) rfl Try.underlying59 rfl F.sz59 A_gc (by omega) hz3) ?_
    refine Kw.WS_v rfl rfl rfl (Kw.R_loadW rfl Try.underlying59 rfl (by exact F.sz59) A_gx) ?_
    refine Kw.WS_nil ?_
    by_cases hlt : ltT p (k, a)
    ·
      refine Kw.WL_callc rfl rfl rfl rfl F.cl24 rfl (by have q := ahead_c p (k, a) w13; rw [decide_eq_true hlt] at q; exact q) ?_; intro w15 bw15
      replace A_gk := A_gk.call bw15
      replace A_gx := A_gx.call bw15
      replace HB := Kw.Below.then HB (Nat.le_refl _) bw15
      replace O_vc := O_vc.call bw15
      clear bw15
      refine Kw.WL_v rfl rfl rfl (Kw.R_pickt rfl rfl) ?_
      refine Kw.WL_nil ?_
      refine hK12 _ _ ?_; clear hK12 K12
      refine Kw.WC_true rfl ?_
      refine Kw.WC_skip ?_
      refine hK11 _ _ ?_; clear hK11 K11
      refine Kw.WC_sub (l' := [(0, .slice (some ⟨gc, 0, none⟩) C.length capc), (7, .pointer (some ⟨gx, 0, none⟩)), (8, .int .i64 (i : Int)), (20, .slice (some ⟨gc, 0, none⟩) C.length capc), (21, .int .i64 (i : Int)), (22, .pointer (some ⟨gc, i * 3, none⟩)), (23, .agg #[.int .i64 p.1.1, .int .i64 p.1.2, .int .i64 p.2]), (24, .agg #[.int .i64 k.1, .int .i64 k.2, .int .i64 a]), (25, .bool true)]) (Kw.Sub.cons rfl (Kw.Sub.cons rfl (Kw.Sub.cons rfl (Kw.Sub.cons rfl (Kw.Sub.cons rfl (Kw.Sub.cons rfl (Kw.Sub.cons rfl (Kw.Sub.cons rfl (Kw.Sub.cons rfl Kw.Sub.nil))))))))) ?_
      refine Kw.WC_block ?_
      refine Kw.WC_region [some 27, some 28, some 8] rfl ?_
      refine Kw.WL_v rfl rfl rfl (Kw.R_move rfl) ?_
      refine Kw.WL_v rfl rfl rfl (Kw.R_add (c := ((i + 1 : Nat) : Int)) rfl rfl (by rw [Kw.wrap_i64 (by omega)]; omega)) ?_
      refine Kw.WL_v rfl rfl rfl (Kw.R_assign rfl) ?_
      refine Kw.WL_nil ?_
      refine Kw.QN_block ?_
      refine Kw.QN_round (i + 1) ⟨⟨by omega, take_all hi2 hq (by rw [← hp]; exact hlt)⟩, A_gk, A_gx, O_vc, HB⟩ (by omega) (Kw.Sub.cons rfl (Kw.Sub.cons rfl (Kw.Sub.cons rfl Kw.Sub.nil)))
    ·
      refine Kw.WL_callc rfl rfl rfl rfl F.cl24 rfl (by have q := ahead_c p (k, a) w13; rw [decide_eq_false hlt] at q; exact q) ?_; intro w16 bw16
      replace A_gk := A_gk.call bw16
      replace A_gx := A_gx.call bw16
      replace HB := Kw.Below.then HB (Nat.le_refl _) bw16
      replace O_vc := O_vc.call bw16
      clear bw16
      refine Kw.WL_v rfl rfl rfl (Kw.R_pickt rfl rfl) ?_
      refine Kw.WL_nil ?_
      refine hK12 _ _ ?_; clear hK12 K12
      refine Kw.WC_false rfl ?_
      refine Kw.WC_exit ?_
      refine Kw.QE_then ?_; clear hK11 K11
      refine Kw.QE_then ?_
      refine Kw.QE_here ?_
      refine hK9 _ _ ?_; clear hK9 K9
      refine Kw.WC_sub (l' := [(0, .slice (some ⟨gc, 0, none⟩) C.length capc), (7, .pointer (some ⟨gx, 0, none⟩)), (8, .int .i64 (i : Int))]) (Kw.Sub.cons rfl (Kw.Sub.cons rfl (Kw.Sub.cons rfl Kw.Sub.nil))) ?_
      refine Kw.WC_seq (fun K17 hK17 => ?_)
      refine Kw.WC_fork (fun ww => Kw.At ww gx #[.int .i64 k.1, .int .i64 k.2, .int .i64 a] 59 ∧ True) (.take 0 (.take 1 (.take 2 (.take 4 (.take 7 (.take 8 (.take 9 (.fork 3 5 (.only 5 (.only 6 (.only 10 (.take 11 .done)))) (.only 3 (.only 6 (.only 10 (.take 11 .done)))))))))))) [some 29, some 30, some 31, some 32, some 33, some 34, some 35, some 36, some 37, some 38, some 39, some 6] rfl (by kernel_rfl) rfl (by kernel_rfl) ?_
      obtain ⟨w18, hww18⟩ : ∃ x : World, x = Go.World.drew w16 := ⟨_, rfl⟩
      rw [← hww18]
      replace A_gk : Kw.At w18 gk #[.int .i64 k.1, .int .i64 k.2] 28 := by rw [hww18]; exact A_gk
      replace A_gx : Kw.At w18 gx #[.int .i64 k.1, .int .i64 k.2, .int .i64 a] 59 := by rw [hww18]; exact A_gx
      replace O_vc := O_vc.drew; rw [← hww18] at O_vc
      replace HB : Below w.heap.size w w18 := by rw [hww18]; exact HB.drew
      clear hww18
      have hS : Kw.At w18 gx #[.int .i64 k.1, .int .i64 k.2, .int .i64 a] 59 ∧ True := ⟨A_gx, trivial⟩
      clear A_gc; obtain ⟨curc, A_gc, hcc, hcm, htc, hBd⟩ := OwnAt3 O_vc; clear O_vc
      refine Kw.WZ_take rfl rfl rfl rfl (fun _ _ _ h => h) hS (fun _ ⟨A_gx, _⟩ => Kw.R_move rfl) ?_
      refine Kw.WZ_take rfl rfl rfl rfl (fun _ _ _ h => h) hS (fun _ ⟨A_gx, _⟩ => Kw.R_move rfl) ?_
      refine Kw.WZ_take rfl rfl rfl rfl (fun _ _ _ h => h) hS (fun _ ⟨A_gx, _⟩ => Kw.R_slicel (i := 0) (j := i) (m := capc) (o' := 0) rfl Try.underlying38 F.sz59 rfl ⟨_, rfl⟩ rfl (by omega) (by omega) (by omega) rfl (by simp)) ?_
      refine Kw.WZ_take rfl rfl rfl rfl (fun _ _ _ h => h) hS (fun _ ⟨A_gx, _⟩ => Kw.R_loadW rfl Try.underlying59 rfl (by exact F.sz59) A_gx) ?_
      refine Kw.WZ_take rfl rfl rfl rfl (fun _ _ _ h => h) hS (fun _ ⟨A_gx, _⟩ => Kw.R_move rfl) ?_
      refine Kw.WZ_take rfl rfl rfl rfl (fun _ _ _ h => h) hS (fun _ ⟨A_gx, _⟩ => Kw.R_move rfl) ?_
      obtain ⟨oq, hoq⟩ : ∃ x : Nat, (if capc = i then 0 else 0 + i * 3) = x := ⟨_, rfl⟩
      refine Kw.WZ_take rfl rfl rfl rfl (fun _ _ _ h => h) hS (fun _ ⟨A_gx, _⟩ => Kw.R_slicel (i := i) (j := C.length) (m := capc) (o' := oq) rfl Try.underlying38 F.sz59 ⟨_, rfl⟩ rfl rfl (by omega) (by omega) (by omega) rfl (hoq)) ?_
      refine Kw.WZ_fork ?_ ?_
      ·
        refine Kw.WO_append rfl rfl rfl rfl rfl Try.underlying38 Try.underlying38 (.inr ⟨_, rfl⟩) F.sz59 F.by59 F.ze59 rfl (Kw.Own.nil _ _ _ _) (Kw.News.row (news := flatT (C.take i)) A_gc (by rw [List.drop_zero]; exact takeT htc (by omega)) (by rw [flatT_length, List.length_take]; congr 1; omega) (flatT_onec _)) (by unfold maxLen; omega) (by omega) HB.size ?_; intro v32 w19 O_v32 R_v32
        have D_v32_gk := R_v32.ne A_gk (fun h => by cases h)
        replace A_gk := R_v32.keep A_gk (fun h => by cases h)
        have D_v32_gx := R_v32.ne A_gx (fun h => by cases h)
        replace A_gx := R_v32.keep A_gx (fun h => by cases h)
        have D_v32_gc := R_v32.ne A_gc (fun h => by cases h)
        replace A_gc := R_v32.keep A_gc (fun h => by cases h)
        replace HB := R_v32.below HB (Nat.le_refl _) (fun g hg => by cases hg); clear R_v32
        replace O_v32 : Kw.Own w19 w.heap.size 59 3 v32 ((C.take i).length) (flatT (C.take i)) := by rw [List.length_take, Nat.min_eq_left (by omega), Nat.zero_add, List.nil_append] at *; exact O_v32
        clear hS; have hS : Kw.At w19 gx #[.int .i64 k.1, .int .i64 k.2, .int .i64 a] 59 ∧ True := ⟨A_gx, trivial⟩
        refine ⟨hS, ?_⟩
        refine Kw.WZ_only ?_
        obtain ⟨g34, w20, N_g34⟩ : ∃ b_ w2_, Kw.Newb w19 b_ #[.int .i64 k.1, .int .i64 k.2, .int .i64 a] 59 w2_ := ⟨_, _, rfl, rfl⟩
        have R_g34 := fun (l : Kw.Env) (h : Kw.evsP l [(0, .tmp 33)] = some [(0, .agg #[.int .i64 k.1, .int .i64 k.2, .int .i64 a])]) => Kw.R_buildSlice (P := Try.prog) (l := l) (D := some 34) (T := 38) (S := "ref.go:40") (F := #[⟨4, .data⟩]) (g := none) (t := 38) (len := 1) h (fun w => by kernel_rfl) N_g34
        have L_gk_g34 := N_g34.ne A_gk; replace A_gk := N_g34.keep A_gk
        have L_gx_g34 := N_g34.ne A_gx; replace A_gx := N_g34.keep A_gx
        have L_gc_g34 := N_g34.ne A_gc; replace A_gc := N_g34.keep A_gc
        have A_g34 : Kw.At w20 g34 #[.int .i64 k.1, .int .i64 k.2, .int .i64 a] 59 := N_g34.at_
        have D_v32_g34 := O_v32.ne_new N_g34; replace O_v32 := O_v32.new N_g34
        have G_g34 := N_g34.ge HB (Nat.le_refl _); replace HB := N_g34.below HB (Nat.le_refl _); clear N_g34
        clear hS; have hS : Kw.At w20 gx #[.int .i64 k.1, .int .i64 k.2, .int .i64 a] 59 ∧ True := ⟨A_gx, trivial⟩
        refine Kw.WO_v rfl rfl rfl rfl (R_g34 _ rfl) hS ?_; clear R_g34
        refine Kw.WZ_only ?_
        refine Kw.WO_append rfl rfl rfl rfl rfl Try.underlying38 Try.underlying38 (.inr ⟨_, rfl⟩) F.sz59 F.by59 F.ze59 rfl O_v32 (Kw.News.row (news := [.int .i64 k.1, .int .i64 k.2, .int .i64 a]) A_g34 rfl rfl (by simp [Value.oneCell'])) (by unfold maxLen; rw [List.length_take]; omega) (by rw [List.length_take]; omega) HB.size ?_; intro v35 w21 O_v35 R_v35
        have D_v35_gk := R_v35.ne A_gk D_v32_gk
        replace A_gk := R_v35.keep A_gk D_v32_gk
        have D_v35_gx := R_v35.ne A_gx D_v32_gx
        replace A_gx := R_v35.keep A_gx D_v32_gx
        have D_v35_gc := R_v35.ne A_gc D_v32_gc
        replace A_gc := R_v35.keep A_gc D_v32_gc
        have D_v35_g34 := R_v35.ne A_g34 D_v32_g34
        replace A_g34 := R_v35.keep A_g34 D_v32_g34
        replace HB := R_v35.below HB (Nat.le_refl _) (fun g hg => O_v32.ge hg); clear R_v35
        replace O_v35 : Kw.Own w21 w.heap.size 59 3 v35 ((C.take i ++ [(k, a)]).length) (flatT (C.take i ++ [(k, a)])) := by rw [flatT_app, List.length_append, flatT_one]; exact O_v35
        clear O_v32
        clear A_g34
        clear hS; have hS : Kw.At w21 gx #[.int .i64 k.1, .int .i64 k.2, .int .i64 a] 59 ∧ True := ⟨A_gx, trivial⟩
        refine ⟨hS, ?_⟩
        refine Kw.WZ_only ?_
        refine Kw.WO_append rfl rfl rfl rfl rfl Try.underlying38 Try.underlying38 (.inr ⟨_, rfl⟩) F.sz59 F.by59 F.ze59 rfl O_v35 (Kw.News.row (news := flatT (C.drop i)) A_gc (pieceT htc hcc (by omega) hoq) (by rw [flatT_length, List.length_drop]) (flatT_onec _)) (by unfold maxLen; rw [List.length_append, List.length_take]; simp only [List.length_singleton]; omega) (by rw [List.length_append, List.length_take]; simp only [List.length_singleton]; omega) HB.size ?_; intro v39 w22 O_v39 R_v39
        have D_v39_gk := R_v39.ne A_gk D_v35_gk
        replace A_gk := R_v39.keep A_gk D_v35_gk
        have D_v39_gx := R_v39.ne A_gx D_v35_gx
        replace A_gx := R_v39.keep A_gx D_v35_gx
        have D_v39_gc := R_v39.ne A_gc D_v35_gc
        replace A_gc := R_v39.keep A_gc D_v35_gc
        replace HB := R_v39.below HB (Nat.le_refl _) (fun g hg => O_v35.ge hg); clear R_v39
        replace O_v39 : Kw.Own w22 w.heap.size 59 3 v39 ((insT C i (k, a)).length) (flatT (insT C i (k, a))) := by rw [insT_app, flatT_app, List.length_append (bs := C.drop i), List.length_drop]; exact O_v39
        clear O_v35
        clear hS; have hS : Kw.At w22 gx #[.int .i64 k.1, .int .i64 k.2, .int .i64 a] 59 ∧ True := ⟨A_gx, trivial⟩
        refine ⟨hS, ?_⟩
        refine Kw.WZ_take rfl rfl rfl rfl (fun _ _ _ h => h) hS (fun _ ⟨A_gx, _⟩ => Kw.R_assign rfl) ?_
        refine Kw.WZ_nil ?_
        clear hS
        refine hK17 _ _ ?_; clear hK17 K17
        refine Kw.WC_sub (l' := [(6, v39)]) (Kw.Sub.cons rfl Kw.Sub.nil) ?_
        refine Kw.WC_ret ?_
        subst hC
        exact Kw.post_ret1 rfl rfl ⟨_, rfl, ⟨i, hi, hq, fun h => by rw [← hp]; exact hlt, O_v39⟩, HB⟩
      ·
        obtain ⟨g34, w23, N_g34⟩ : ∃ b_ w2_, Kw.Newb w18 b_ #[.int .i64 k.1, .int .i64 k.2, .int .i64 a] 59 w2_ := ⟨_, _, rfl, rfl⟩
        have R_g34 := fun (l : Kw.Env) (h : Kw.evsP l [(0, .tmp 33)] = some [(0, .agg #[.int .i64 k.1, .int .i64 k.2, .int .i64 a])]) => Kw.R_buildSlice (P := Try.prog) (l := l) (D := some 34) (T := 38) (S := "ref.go:40") (F := #[⟨4, .data⟩]) (g := none) (t := 38) (len := 1) h (fun w => by kernel_rfl) N_g34
        have L_gk_g34 := N_g34.ne A_gk; replace A_gk := N_g34.keep A_gk
        have L_gx_g34 := N_g34.ne A_gx; replace A_gx := N_g34.keep A_gx
        have L_gc_g34 := N_g34.ne A_gc; replace A_gc := N_g34.keep A_gc
        have A_g34 : Kw.At w23 g34 #[.int .i64 k.1, .int .i64 k.2, .int .i64 a] 59 := N_g34.at_
        have G_g34 := N_g34.ge HB (Nat.le_refl _); replace HB := N_g34.below HB (Nat.le_refl _); clear N_g34
        clear hS; have hS : Kw.At w23 gx #[.int .i64 k.1, .int .i64 k.2, .int .i64 a] 59 ∧ True := ⟨A_gx, trivial⟩
        refine Kw.WO_v rfl rfl rfl rfl (R_g34 _ rfl) hS ?_; clear R_g34
        refine Kw.WZ_only ?_
        refine Kw.WO_append rfl rfl rfl rfl rfl Try.underlying38 Try.underlying38 (.inr ⟨_, rfl⟩) F.sz59 F.by59 F.ze59 rfl (Kw.Own.nil _ _ _ _) (Kw.News.row (news := flatT (C.take i)) A_gc (by rw [List.drop_zero]; exact takeT htc (by omega)) (by rw [flatT_length, List.length_take]; congr 1; omega) (flatT_onec _)) (by unfold maxLen; omega) (by omega) HB.size ?_; intro v32 w24 O_v32 R_v32
        have D_v32_gk := R_v32.ne A_gk (fun h => by cases h)
        replace A_gk := R_v32.keep A_gk (fun h => by cases h)
        have D_v32_gx := R_v32.ne A_gx (fun h => by cases h)
        replace A_gx := R_v32.keep A_gx (fun h => by cases h)
        have D_v32_gc := R_v32.ne A_gc (fun h => by cases h)
        replace A_gc := R_v32.keep A_gc (fun h => by cases h)
        have D_v32_g34 := R_v32.ne A_g34 (fun h => by cases h)
        replace A_g34 := R_v32.keep A_g34 (fun h => by cases h)
        replace HB := R_v32.below HB (Nat.le_refl _) (fun g hg => by cases hg); clear R_v32
        replace O_v32 : Kw.Own w24 w.heap.size 59 3 v32 ((C.take i).length) (flatT (C.take i)) := by rw [List.length_take, Nat.min_eq_left (by omega), Nat.zero_add, List.nil_append] at *; exact O_v32
        clear hS; have hS : Kw.At w24 gx #[.int .i64 k.1, .int .i64 k.2, .int .i64 a] 59 ∧ True := ⟨A_gx, trivial⟩
        refine ⟨hS, ?_⟩
        refine Kw.WZ_only ?_
        refine Kw.WO_append rfl rfl rfl rfl rfl Try.underlying38 Try.underlying38 (.inr ⟨_, rfl⟩) F.sz59 F.by59 F.ze59 rfl O_v32 (Kw.News.row (news := [.int .i64 k.1, .int .i64 k.2, .int .i64 a]) A_g34 rfl rfl (by simp [Value.oneCell'])) (by unfold maxLen; rw [List.length_take]; omega) (by rw [List.length_take]; omega) HB.size ?_; intro v35 w25 O_v35 R_v35
        have D_v35_gk := R_v35.ne A_gk D_v32_gk
        replace A_gk := R_v35.keep A_gk D_v32_gk
        have D_v35_gx := R_v35.ne A_gx D_v32_gx
        replace A_gx := R_v35.keep A_gx D_v32_gx
        have D_v35_gc := R_v35.ne A_gc D_v32_gc
        replace A_gc := R_v35.keep A_gc D_v32_gc
        have D_v35_g34 := R_v35.ne A_g34 D_v32_g34
        replace A_g34 := R_v35.keep A_g34 D_v32_g34
        replace HB := R_v35.below HB (Nat.le_refl _) (fun g hg => O_v32.ge hg); clear R_v35
        replace O_v35 : Kw.Own w25 w.heap.size 59 3 v35 ((C.take i ++ [(k, a)]).length) (flatT (C.take i ++ [(k, a)])) := by rw [flatT_app, List.length_append, flatT_one]; exact O_v35
        clear O_v32
        clear A_g34
        clear hS; have hS : Kw.At w25 gx #[.int .i64 k.1, .int .i64 k.2, .int .i64 a] 59 ∧ True := ⟨A_gx, trivial⟩
        refine ⟨hS, ?_⟩
        refine Kw.WZ_only ?_
        refine Kw.WO_append rfl rfl rfl rfl rfl Try.underlying38 Try.underlying38 (.inr ⟨_, rfl⟩) F.sz59 F.by59 F.ze59 rfl O_v35 (Kw.News.row (news := flatT (C.drop i)) A_gc (pieceT htc hcc (by omega) hoq) (by rw [flatT_length, List.length_drop]) (flatT_onec _)) (by unfold maxLen; rw [List.length_append, List.length_take]; simp only [List.length_singleton]; omega) (by rw [List.length_append, List.length_take]; simp only [List.length_singleton]; omega) HB.size ?_; intro v39 w26 O_v39 R_v39
        have D_v39_gk := R_v39.ne A_gk D_v35_gk
        replace A_gk := R_v39.keep A_gk D_v35_gk
        have D_v39_gx := R_v39.ne A_gx D_v35_gx
        replace A_gx := R_v39.keep A_gx D_v35_gx
        have D_v39_gc := R_v39.ne A_gc D_v35_gc
        replace A_gc := R_v39.keep A_gc D_v35_gc
        replace HB := R_v39.below HB (Nat.le_refl _) (fun g hg => O_v35.ge hg); clear R_v39
        replace O_v39 : Kw.Own w26 w.heap.size 59 3 v39 ((insT C i (k, a)).length) (flatT (insT C i (k, a))) := by rw [insT_app, flatT_app, List.length_append (bs := C.drop i), List.length_drop]; exact O_v39
        clear O_v35
        clear hS; have hS : Kw.At w26 gx #[.int .i64 k.1, .int .i64 k.2, .int .i64 a] 59 ∧ True := ⟨A_gx, trivial⟩
        refine ⟨hS, ?_⟩
        refine Kw.WZ_take rfl rfl rfl rfl (fun _ _ _ h => h) hS (fun _ ⟨A_gx, _⟩ => Kw.R_assign rfl) ?_
        refine Kw.WZ_nil ?_
        clear hS
        refine hK17 _ _ ?_; clear hK17 K17
        refine Kw.WC_sub (l' := [(6, v39)]) (Kw.Sub.cons rfl Kw.Sub.nil) ?_
        refine Kw.WC_ret ?_
        subst hC
        exact Kw.post_ret1 rfl rfl ⟨_, rfl, ⟨i, hi, hq, fun h => by rw [← hp]; exact hlt, O_v39⟩, HB⟩
  ·
    refine Kw.WS_v rfl rfl rfl (Kw.R_lss (z := false) rfl rfl (decide_eq_false c14)) ?_
    refine Kw.WS_v rfl rfl rfl (Kw.R_move rfl) ?_
    refine Kw.WS_off rfl rfl rfl ?_
    refine Kw.WS_off rfl rfl rfl ?_
    refine Kw.WS_off rfl rfl rfl ?_
    refine Kw.WS_off rfl rfl rfl ?_
    refine Kw.WS_off rfl rfl rfl ?_
    refine Kw.WS_nil ?_
    refine Kw.WL_off rfl rfl rfl ?_
    refine Kw.WL_v rfl rfl rfl (Kw.R_pickf rfl rfl) ?_
    refine Kw.WL_nil ?_
    refine hK12 _ _ ?_; clear hK12 K12
    refine Kw.WC_false rfl ?_
    refine Kw.WC_exit ?_
    refine Kw.QE_then ?_; clear hK11 K11
    refine Kw.QE_then ?_
    refine Kw.QE_here ?_
    refine hK9 _ _ ?_; clear hK9 K9
    refine Kw.WC_sub (l' := [(0, vc), (7, .pointer (some ⟨gx, 0, none⟩)), (8, .int .i64 (i : Int))]) (Kw.Sub.cons rfl (Kw.Sub.cons rfl (Kw.Sub.cons rfl Kw.Sub.nil))) ?_
    refine Kw.WC_seq (fun K27 hK27 => ?_)
    refine Kw.WC_fork (fun ww => Kw.At ww gx #[.int .i64 k.1, .int .i64 k.2, .int .i64 a] 59 ∧ True) (.take 0 (.take 1 (.take 2 (.take 4 (.take 7 (.take 8 (.take 9 (.fork 3 5 (.only 5 (.only 6 (.only 10 (.take 11 .done)))) (.only 3 (.only 6 (.only 10 (.take 11 .done)))))))))))) [some 29, some 30, some 31, some 32, some 33, some 34, some 35, some 36, some 37, some 38, some 39, some 6] rfl (by kernel_rfl) rfl (by kernel_rfl) ?_
    obtain ⟨w28, hww28⟩ : ∃ x : World, x = Go.World.drew w13 := ⟨_, rfl⟩
    rw [← hww28]
    replace A_gk : Kw.At w28 gk #[.int .i64 k.1, .int .i64 k.2] 28 := by rw [hww28]; exact A_gk
    replace A_gx : Kw.At w28 gx #[.int .i64 k.1, .int .i64 k.2, .int .i64 a] 59 := by rw [hww28]; exact A_gx
    replace O_vc := O_vc.drew; rw [← hww28] at O_vc
    replace HB : Below w.heap.size w w28 := by rw [hww28]; exact HB.drew
    clear hww28
    have hS : Kw.At w28 gx #[.int .i64 k.1, .int .i64 k.2, .int .i64 a] 59 ∧ True := ⟨A_gx, trivial⟩
    rcases O_vc.2 with ⟨rfl, hC0⟩ | ⟨gc, capc, curc, rfl, hBc, A_gc, hcc, hcm, hsc, htc⟩
    ·
      obtain rfl : i = 0 := by omega
      have hCe : C = [] := List.eq_nil_of_length_eq_zero hC0
      clear O_vc
      refine Kw.WZ_take rfl rfl rfl rfl (fun _ _ _ h => h) hS (fun _ ⟨A_gx, _⟩ => Kw.R_move rfl) ?_
      refine Kw.WZ_take rfl rfl rfl rfl (fun _ _ _ h => h) hS (fun _ ⟨A_gx, _⟩ => Kw.R_move rfl) ?_
      refine Kw.WZ_take rfl rfl rfl rfl (fun _ _ _ h => h) hS (fun _ ⟨A_gx, _⟩ => R_nilhi rfl rfl Try.underlying38 F.sz59) ?_
      refine Kw.WZ_take rfl rfl rfl rfl (fun _ _ _ h => h) hS (fun _ ⟨A_gx, _⟩ => Kw.R_loadW rfl Try.underlying59 rfl (by exact F.sz59) A_gx) ?_
      refine Kw.WZ_take rfl rfl rfl rfl (fun _ _ _ h => h) hS (fun _ ⟨A_gx, _⟩ => Kw.R_move rfl) ?_
      refine Kw.WZ_take rfl rfl rfl rfl (fun _ _ _ h => h) hS (fun _ ⟨A_gx, _⟩ => Kw.R_move rfl) ?_
      refine Kw.WZ_take rfl rfl rfl rfl (fun _ _ _ h => h) hS (fun _ ⟨A_gx, _⟩ => R_nillo rfl rfl Try.underlying38 F.sz59) ?_
      refine Kw.WZ_fork ?_ ?_
      ·
        refine Kw.WO_append rfl rfl rfl rfl rfl Try.underlying38 Try.underlying38 (.inr ⟨_, rfl⟩) F.sz59 F.by59 F.ze59 rfl (Kw.Own.nil _ _ _ _) Kw.News.nil (by unfold maxLen; omega) (by omega) HB.size ?_; intro v32 w29 O_v32 R_v32
        have D_v32_gk := R_v32.ne A_gk (fun h => by cases h)
        replace A_gk := R_v32.keep A_gk (fun h => by cases h)
        have D_v32_gx := R_v32.ne A_gx (fun h => by cases h)
        replace A_gx := R_v32.keep A_gx (fun h => by cases h)
        replace HB := R_v32.below HB (Nat.le_refl _) (fun g hg => by cases hg); clear R_v32
        replace O_v32 : Kw.Own w29 w.heap.size 59 3 v32 ((C.take 0).length) (flatT (C.take 0)) := by exact O_v32
        clear hS; have hS : Kw.At w29 gx #[.int .i64 k.1, .int .i64 k.2, .int .i64 a] 59 ∧ True := ⟨A_gx, trivial⟩
        refine ⟨hS, ?_⟩
        refine Kw.WZ_only ?_
        obtain ⟨g34, w30, N_g34⟩ : ∃ b_ w2_, Kw.Newb w29 b_ #[.int .i64 k.1, .int .i64 k.2, .int .i64 a] 59 w2_ := ⟨_, _, rfl, rfl⟩
        have R_g34 := fun (l : Kw.Env) (h : Kw.evsP l [(0, .tmp 33)] = some [(0, .agg #[.int .i64 k.1, .int .i64 k.2, .int .i64 a])]) => Kw.R_buildSlice (P := Try.prog) (l := l) (D := some 34) (T := 38) (S := "ref.go:40") (F := #[⟨4, .data⟩]) (g := none) (t := 38) (len := 1) h (fun w => by kernel_rfl) N_g34
        have L_gk_g34 := N_g34.ne A_gk; replace A_gk := N_g34.keep A_gk
        have L_gx_g34 := N_g34.ne A_gx; replace A_gx := N_g34.keep A_gx
        have A_g34 : Kw.At w30 g34 #[.int .i64 k.1, .int .i64 k.2, .int .i64 a] 59 := N_g34.at_
        have D_v32_g34 := O_v32.ne_new N_g34; replace O_v32 := O_v32.new N_g34
        have G_g34 := N_g34.ge HB (Nat.le_refl _); replace HB := N_g34.below HB (Nat.le_refl _); clear N_g34
        clear hS; have hS : Kw.At w30 gx #[.int .i64 k.1, .int .i64 k.2, .int .i64 a] 59 ∧ True := ⟨A_gx, trivial⟩
        refine Kw.WO_v rfl rfl rfl rfl (R_g34 _ rfl) hS ?_; clear R_g34
        refine Kw.WZ_only ?_
        refine Kw.WO_append rfl rfl rfl rfl rfl Try.underlying38 Try.underlying38 (.inr ⟨_, rfl⟩) F.sz59 F.by59 F.ze59 rfl O_v32 (Kw.News.row (news := [.int .i64 k.1, .int .i64 k.2, .int .i64 a]) A_g34 rfl rfl (by simp [Value.oneCell'])) (by unfold maxLen; rw [List.length_take]; omega) (by rw [List.length_take]; omega) HB.size ?_; intro v35 w31 O_v35 R_v35
        have D_v35_gk := R_v35.ne A_gk D_v32_gk
        replace A_gk := R_v35.keep A_gk D_v32_gk
        have D_v35_gx := R_v35.ne A_gx D_v32_gx
        replace A_gx := R_v35.keep A_gx D_v32_gx
        have D_v35_g34 := R_v35.ne A_g34 D_v32_g34
        replace A_g34 := R_v35.keep A_g34 D_v32_g34
        replace HB := R_v35.below HB (Nat.le_refl _) (fun g hg => O_v32.ge hg); clear R_v35
        replace O_v35 : Kw.Own w31 w.heap.size 59 3 v35 ((C.take 0 ++ [(k, a)]).length) (flatT (C.take 0 ++ [(k, a)])) := by rw [flatT_app, List.length_append, flatT_one]; exact O_v35
        clear O_v32
        clear A_g34
        clear hS; have hS : Kw.At w31 gx #[.int .i64 k.1, .int .i64 k.2, .int .i64 a] 59 ∧ True := ⟨A_gx, trivial⟩
        refine ⟨hS, ?_⟩
        refine Kw.WZ_only ?_
        refine Kw.WO_append rfl rfl rfl rfl rfl Try.underlying38 Try.underlying38 (.inr ⟨_, rfl⟩) F.sz59 F.by59 F.ze59 rfl O_v35 Kw.News.nil (by unfold maxLen; simp) (by simp) HB.size ?_; intro v39 w32 O_v39 R_v39
        have D_v39_gk := R_v39.ne A_gk D_v35_gk
        replace A_gk := R_v39.keep A_gk D_v35_gk
        have D_v39_gx := R_v39.ne A_gx D_v35_gx
        replace A_gx := R_v39.keep A_gx D_v35_gx
        replace HB := R_v39.below HB (Nat.le_refl _) (fun g hg => O_v35.ge hg); clear R_v39
        replace O_v39 : Kw.Own w32 w.heap.size 59 3 v39 ((insT C 0 (k, a)).length) (flatT (insT C 0 (k, a))) := by unfold insT; rw [hCe] at *; exact O_v39
        clear O_v35
        clear hS; have hS : Kw.At w32 gx #[.int .i64 k.1, .int .i64 k.2, .int .i64 a] 59 ∧ True := ⟨A_gx, trivial⟩
        refine ⟨hS, ?_⟩
        refine Kw.WZ_take rfl rfl rfl rfl (fun _ _ _ h => h) hS (fun _ ⟨A_gx, _⟩ => Kw.R_assign rfl) ?_
        refine Kw.WZ_nil ?_
        clear hS
        refine hK27 _ _ ?_; clear hK27 K27
        refine Kw.WC_sub (l' := [(6, v39)]) (Kw.Sub.cons rfl Kw.Sub.nil) ?_
        refine Kw.WC_ret ?_
        exact Kw.post_ret1 rfl rfl ⟨_, rfl, ⟨0, Nat.zero_le _, by rw [← hC]; exact hq, fun h => absurd h (by rw [← hC, hC0]; exact Nat.lt_irrefl _), by rw [← hC]; exact O_v39⟩, HB⟩
      ·
        obtain ⟨g34, w33, N_g34⟩ : ∃ b_ w2_, Kw.Newb w28 b_ #[.int .i64 k.1, .int .i64 k.2, .int .i64 a] 59 w2_ := ⟨_, _, rfl, rfl⟩
        have R_g34 := fun (l : Kw.Env) (h : Kw.evsP l [(0, .tmp 33)] = some [(0, .agg #[.int .i64 k.1, .int .i64 k.2, .int .i64 a])]) => Kw.R_buildSlice (P := Try.prog) (l := l) (D := some 34) (T := 38) (S := "ref.go:40") (F := #[⟨4, .data⟩]) (g := none) (t := 38) (len := 1) h (fun w => by kernel_rfl) N_g34
        have L_gk_g34 := N_g34.ne A_gk; replace A_gk := N_g34.keep A_gk
        have L_gx_g34 := N_g34.ne A_gx; replace A_gx := N_g34.keep A_gx
        have A_g34 : Kw.At w33 g34 #[.int .i64 k.1, .int .i64 k.2, .int .i64 a] 59 := N_g34.at_
        have G_g34 := N_g34.ge HB (Nat.le_refl _); replace HB := N_g34.below HB (Nat.le_refl _); clear N_g34
        clear hS; have hS : Kw.At w33 gx #[.int .i64 k.1, .int .i64 k.2, .int .i64 a] 59 ∧ True := ⟨A_gx, trivial⟩
        refine Kw.WO_v rfl rfl rfl rfl (R_g34 _ rfl) hS ?_; clear R_g34
        refine Kw.WZ_only ?_
        refine Kw.WO_append rfl rfl rfl rfl rfl Try.underlying38 Try.underlying38 (.inr ⟨_, rfl⟩) F.sz59 F.by59 F.ze59 rfl (Kw.Own.nil _ _ _ _) Kw.News.nil (by unfold maxLen; omega) (by omega) HB.size ?_; intro v32 w34 O_v32 R_v32
        have D_v32_gk := R_v32.ne A_gk (fun h => by cases h)
        replace A_gk := R_v32.keep A_gk (fun h => by cases h)
        have D_v32_gx := R_v32.ne A_gx (fun h => by cases h)
        replace A_gx := R_v32.keep A_gx (fun h => by cases h)
        have D_v32_g34 := R_v32.ne A_g34 (fun h => by cases h)
        replace A_g34 := R_v32.keep A_g34 (fun h => by cases h)
        replace HB := R_v32.below HB (Nat.le_refl _) (fun g hg => by cases hg); clear R_v32
        replace O_v32 : Kw.Own w34 w.heap.size 59 3 v32 ((C.take 0).length) (flatT (C.take 0)) := by exact O_v32
        clear hS; have hS : Kw.At w34 gx #[.int .i64 k.1, .int .i64 k.2, .int .i64 a] 59 ∧ True := ⟨A_gx, trivial⟩
        refine ⟨hS, ?_⟩
        refine Kw.WZ_only ?_
        refine Kw.WO_append rfl rfl rfl rfl rfl Try.underlying38 Try.underlying38 (.inr ⟨_, rfl⟩) F.sz59 F.by59 F.ze59 rfl O_v32 (Kw.News.row (news := [.int .i64 k.1, .int .i64 k.2, .int .i64 a]) A_g34 rfl rfl (by simp [Value.oneCell'])) (by unfold maxLen; rw [List.length_take]; omega) (by rw [List.length_take]; omega) HB.size ?_; intro v35 w35 O_v35 R_v35
        have D_v35_gk := R_v35.ne A_gk D_v32_gk
        replace A_gk := R_v35.keep A_gk D_v32_gk
        have D_v35_gx := R_v35.ne A_gx D_v32_gx
        replace A_gx := R_v35.keep A_gx D_v32_gx
        have D_v35_g34 := R_v35.ne A_g34 D_v32_g34
        replace A_g34 := R_v35.keep A_g34 D_v32_g34
        replace HB := R_v35.below HB (Nat.le_refl _) (fun g hg => O_v32.ge hg); clear R_v35
        replace O_v35 : Kw.Own w35 w.heap.size 59 3 v35 ((C.take 0 ++ [(k, a)]).length) (flatT (C.take 0 ++ [(k, a)])) := by rw [flatT_app, List.length_append, flatT_one]; exact O_v35
        clear O_v32
        clear A_g34
        clear hS; have hS : Kw.At w35 gx #[.int .i64 k.1, .int .i64 k.2, .int .i64 a] 59 ∧ True := ⟨A_gx, trivial⟩
        refine ⟨hS, ?_⟩
        refine Kw.WZ_only ?_
        refine Kw.WO_append rfl rfl rfl rfl rfl Try.underlying38 Try.underlying38 (.inr ⟨_, rfl⟩) F.sz59 F.by59 F.ze59 rfl O_v35 Kw.News.nil (by unfold maxLen; simp) (by simp) HB.size ?_; intro v39 w36 O_v39 R_v39
        have D_v39_gk := R_v39.ne A_gk D_v35_gk
        replace A_gk := R_v39.keep A_gk D_v35_gk
        have D_v39_gx := R_v39.ne A_gx D_v35_gx
        replace A_gx := R_v39.keep A_gx D_v35_gx
        replace HB := R_v39.below HB (Nat.le_refl _) (fun g hg => O_v35.ge hg); clear R_v39
        replace O_v39 : Kw.Own w36 w.heap.size 59 3 v39 ((insT C 0 (k, a)).length) (flatT (insT C 0 (k, a))) := by unfold insT; rw [hCe] at *; exact O_v39
        clear O_v35
        clear hS; have hS : Kw.At w36 gx #[.int .i64 k.1, .int .i64 k.2, .int .i64 a] 59 ∧ True := ⟨A_gx, trivial⟩
        refine ⟨hS, ?_⟩
        refine Kw.WZ_take rfl rfl rfl rfl (fun _ _ _ h => h) hS (fun _ ⟨A_gx, _⟩ => Kw.R_assign rfl) ?_
        refine Kw.WZ_nil ?_
        clear hS
        refine hK27 _ _ ?_; clear hK27 K27
        refine Kw.WC_sub (l' := [(6, v39)]) (Kw.Sub.cons rfl Kw.Sub.nil) ?_
        refine Kw.WC_ret ?_
        exact Kw.post_ret1 rfl rfl ⟨_, rfl, ⟨0, Nat.zero_le _, by rw [← hC]; exact hq, fun h => absurd h (by rw [← hC, hC0]; exact Nat.lt_irrefl _), by rw [← hC]; exact O_v39⟩, HB⟩
    ·
      clear O_vc
      refine Kw.WZ_take rfl rfl rfl rfl (fun _ _ _ h => h) hS (fun _ ⟨A_gx, _⟩ => Kw.R_move rfl) ?_
      refine Kw.WZ_take rfl rfl rfl rfl (fun _ _ _ h => h) hS (fun _ ⟨A_gx, _⟩ => Kw.R_move rfl) ?_
      refine Kw.WZ_take rfl rfl rfl rfl (fun _ _ _ h => h) hS (fun _ ⟨A_gx, _⟩ => Kw.R_slicel (i := 0) (j := i) (m := capc) (o' := 0) rfl Try.underlying38 F.sz59 rfl ⟨_, rfl⟩ rfl (by omega) (by omega) (by omega) rfl (by simp)) ?_
      refine Kw.WZ_take rfl rfl rfl rfl (fun _ _ _ h => h) hS (fun _ ⟨A_gx, _⟩ => Kw.R_loadW rfl Try.underlying59 rfl (by exact F.sz59) A_gx) ?_
      refine Kw.WZ_take rfl rfl rfl rfl (fun _ _ _ h => h) hS (fun _ ⟨A_gx, _⟩ => Kw.R_move rfl) ?_
      refine Kw.WZ_take rfl rfl rfl rfl (fun _ _ _ h => h) hS (fun _ ⟨A_gx, _⟩ => Kw.R_move rfl) ?_
      obtain ⟨oq, hoq⟩ : ∃ x : Nat, (if capc = i then 0 else 0 + i * 3) = x := ⟨_, rfl⟩
      refine Kw.WZ_take rfl rfl rfl rfl (fun _ _ _ h => h) hS (fun _ ⟨A_gx, _⟩ => Kw.R_slicel (i := i) (j := C.length) (m := capc) (o' := oq) rfl Try.underlying38 F.sz59 ⟨_, rfl⟩ rfl rfl (by omega) (by omega) (by omega) rfl (hoq)) ?_
      refine Kw.WZ_fork ?_ ?_
      ·
        refine Kw.WO_append rfl rfl rfl rfl rfl Try.underlying38 Try.underlying38 (.inr ⟨_, rfl⟩) F.sz59 F.by59 F.ze59 rfl (Kw.Own.nil _ _ _ _) (Kw.News.row (news := flatT (C.take i)) A_gc (by rw [List.drop_zero]; exact takeT htc (by omega)) (by rw [flatT_length, List.length_take]; congr 1; omega) (flatT_onec _)) (by unfold maxLen; omega) (by omega) HB.size ?_; intro v32 w37 O_v32 R_v32
        have D_v32_gk := R_v32.ne A_gk (fun h => by cases h)
        replace A_gk := R_v32.keep A_gk (fun h => by cases h)
        have D_v32_gx := R_v32.ne A_gx (fun h => by cases h)
        replace A_gx := R_v32.keep A_gx (fun h => by cases h)
        have D_v32_gc := R_v32.ne A_gc (fun h => by cases h)
        replace A_gc := R_v32.keep A_gc (fun h => by cases h)
        replace HB := R_v32.below HB (Nat.le_refl _) (fun g hg => by cases hg); clear R_v32
        replace O_v32 : Kw.Own w37 w.heap.size 59 3 v32 ((C.take i).length) (flatT (C.take i)) := by rw [List.length_take, Nat.min_eq_left (by omega), Nat.zero_add, List.nil_append] at *; exact O_v32
        clear hS; have hS : Kw.At w37 gx #[.int .i64 k.1, .int .i64 k.2, .int .i64 a] 59 ∧ True := ⟨A_gx, trivial⟩
        refine ⟨hS, ?_⟩
        refine Kw.WZ_only ?_
        obtain ⟨g34, w38, N_g34⟩ : ∃ b_ w2_, Kw.Newb w37 b_ #[.int .i64 k.1, .int .i64 k.2, .int .i64 a] 59 w2_ := ⟨_, _, rfl, rfl⟩
        have R_g34 := fun (l : Kw.Env) (h : Kw.evsP l [(0, .tmp 33)] = some [(0, .agg #[.int .i64 k.1, .int .i64 k.2, .int .i64 a])]) => Kw.R_buildSlice (P := Try.prog) (l := l) (D := some 34) (T := 38) (S := "ref.go:40") (F := #[⟨4, .data⟩]) (g := none) (t := 38) (len := 1) h (fun w => by kernel_rfl) N_g34
        have L_gk_g34 := N_g34.ne A_gk; replace A_gk := N_g34.keep A_gk
        have L_gx_g34 := N_g34.ne A_gx; replace A_gx := N_g34.keep A_gx
        have L_gc_g34 := N_g34.ne A_gc; replace A_gc := N_g34.keep A_gc
        have A_g34 : Kw.At w38 g34 #[.int .i64 k.1, .int .i64 k.2, .int .i64 a] 59 := N_g34.at_
        have D_v32_g34 := O_v32.ne_new N_g34; replace O_v32 := O_v32.new N_g34
        have G_g34 := N_g34.ge HB (Nat.le_refl _); replace HB := N_g34.below HB (Nat.le_refl _); clear N_g34
        clear hS; have hS : Kw.At w38 gx #[.int .i64 k.1, .int .i64 k.2, .int .i64 a] 59 ∧ True := ⟨A_gx, trivial⟩
        refine Kw.WO_v rfl rfl rfl rfl (R_g34 _ rfl) hS ?_; clear R_g34
        refine Kw.WZ_only ?_
        refine Kw.WO_append rfl rfl rfl rfl rfl Try.underlying38 Try.underlying38 (.inr ⟨_, rfl⟩) F.sz59 F.by59 F.ze59 rfl O_v32 (Kw.News.row (news := [.int .i64 k.1, .int .i64 k.2, .int .i64 a]) A_g34 rfl rfl (by simp [Value.oneCell'])) (by unfold maxLen; rw [List.length_take]; omega) (by rw [List.length_take]; omega) HB.size ?_; intro v35 w39 O_v35 R_v35
        have D_v35_gk := R_v35.ne A_gk D_v32_gk
        replace A_gk := R_v35.keep A_gk D_v32_gk
        have D_v35_gx := R_v35.ne A_gx D_v32_gx
        replace A_gx := R_v35.keep A_gx D_v32_gx
        have D_v35_gc := R_v35.ne A_gc D_v32_gc
        replace A_gc := R_v35.keep A_gc D_v32_gc
        have D_v35_g34 := R_v35.ne A_g34 D_v32_g34
        replace A_g34 := R_v35.keep A_g34 D_v32_g34
        replace HB := R_v35.below HB (Nat.le_refl _) (fun g hg => O_v32.ge hg); clear R_v35
        replace O_v35 : Kw.Own w39 w.heap.size 59 3 v35 ((C.take i ++ [(k, a)]).length) (flatT (C.take i ++ [(k, a)])) := by rw [flatT_app, List.length_append, flatT_one]; exact O_v35
        clear O_v32
        clear A_g34
        clear hS; have hS : Kw.At w39 gx #[.int .i64 k.1, .int .i64 k.2, .int .i64 a] 59 ∧ True := ⟨A_gx, trivial⟩
        refine ⟨hS, ?_⟩
        refine Kw.WZ_only ?_
        refine Kw.WO_append rfl rfl rfl rfl rfl Try.underlying38 Try.underlying38 (.inr ⟨_, rfl⟩) F.sz59 F.by59 F.ze59 rfl O_v35 (Kw.News.row (news := flatT (C.drop i)) A_gc (pieceT htc hcc (by omega) hoq) (by rw [flatT_length, List.length_drop]) (flatT_onec _)) (by unfold maxLen; rw [List.length_append, List.length_take]; simp only [List.length_singleton]; omega) (by rw [List.length_append, List.length_take]; simp only [List.length_singleton]; omega) HB.size ?_; intro v39 w40 O_v39 R_v39
        have D_v39_gk := R_v39.ne A_gk D_v35_gk
        replace A_gk := R_v39.keep A_gk D_v35_gk
        have D_v39_gx := R_v39.ne A_gx D_v35_gx
        replace A_gx := R_v39.keep A_gx D_v35_gx
        have D_v39_gc := R_v39.ne A_gc D_v35_gc
        replace A_gc := R_v39.keep A_gc D_v35_gc
        replace HB := R_v39.below HB (Nat.le_refl _) (fun g hg => O_v35.ge hg); clear R_v39
        replace O_v39 : Kw.Own w40 w.heap.size 59 3 v39 ((insT C i (k, a)).length) (flatT (insT C i (k, a))) := by rw [insT_app, flatT_app, List.length_append (bs := C.drop i), List.length_drop]; exact O_v39
        clear O_v35
        clear hS; have hS : Kw.At w40 gx #[.int .i64 k.1, .int .i64 k.2, .int .i64 a] 59 ∧ True := ⟨A_gx, trivial⟩
        refine ⟨hS, ?_⟩
        refine Kw.WZ_take rfl rfl rfl rfl (fun _ _ _ h => h) hS (fun _ ⟨A_gx, _⟩ => Kw.R_assign rfl) ?_
        refine Kw.WZ_nil ?_
        clear hS
        refine hK27 _ _ ?_; clear hK27 K27
        refine Kw.WC_sub (l' := [(6, v39)]) (Kw.Sub.cons rfl Kw.Sub.nil) ?_
        refine Kw.WC_ret ?_
        subst hC
        exact Kw.post_ret1 rfl rfl ⟨_, rfl, ⟨i, hi, hq, fun h => by omega, O_v39⟩, HB⟩
      ·
        obtain ⟨g34, w41, N_g34⟩ : ∃ b_ w2_, Kw.Newb w28 b_ #[.int .i64 k.1, .int .i64 k.2, .int .i64 a] 59 w2_ := ⟨_, _, rfl, rfl⟩
        have R_g34 := fun (l : Kw.Env) (h : Kw.evsP l [(0, .tmp 33)] = some [(0, .agg #[.int .i64 k.1, .int .i64 k.2, .int .i64 a])]) => Kw.R_buildSlice (P := Try.prog) (l := l) (D := some 34) (T := 38) (S := "ref.go:40") (F := #[⟨4, .data⟩]) (g := none) (t := 38) (len := 1) h (fun w => by kernel_rfl) N_g34
        have L_gk_g34 := N_g34.ne A_gk; replace A_gk := N_g34.keep A_gk
        have L_gx_g34 := N_g34.ne A_gx; replace A_gx := N_g34.keep A_gx
        have L_gc_g34 := N_g34.ne A_gc; replace A_gc := N_g34.keep A_gc
        have A_g34 : Kw.At w41 g34 #[.int .i64 k.1, .int .i64 k.2, .int .i64 a] 59 := N_g34.at_
        have G_g34 := N_g34.ge HB (Nat.le_refl _); replace HB := N_g34.below HB (Nat.le_refl _); clear N_g34
        clear hS; have hS : Kw.At w41 gx #[.int .i64 k.1, .int .i64 k.2, .int .i64 a] 59 ∧ True := ⟨A_gx, trivial⟩
        refine Kw.WO_v rfl rfl rfl rfl (R_g34 _ rfl) hS ?_; clear R_g34
        refine Kw.WZ_only ?_
        refine Kw.WO_append rfl rfl rfl rfl rfl Try.underlying38 Try.underlying38 (.inr ⟨_, rfl⟩) F.sz59 F.by59 F.ze59 rfl (Kw.Own.nil _ _ _ _) (Kw.News.row (news := flatT (C.take i)) A_gc (by rw [List.drop_zero]; exact takeT htc (by omega)) (by rw [flatT_length, List.length_take]; congr 1; omega) (flatT_onec _)) (by unfold maxLen; omega) (by omega) HB.size ?_; intro v32 w42 O_v32 R_v32
        have D_v32_gk := R_v32.ne A_gk (fun h => by cases h)
        replace A_gk := R_v32.keep A_gk (fun h => by cases h)
        have D_v32_gx := R_v32.ne A_gx (fun h => by cases h)
        replace A_gx := R_v32.keep A_gx (fun h => by cases h)
        have D_v32_gc := R_v32.ne A_gc (fun h => by cases h)
        replace A_gc := R_v32.keep A_gc (fun h => by cases h)
        have D_v32_g34 := R_v32.ne A_g34 (fun h => by cases h)
        replace A_g34 := R_v32.keep A_g34 (fun h => by cases h)
        replace HB := R_v32.below HB (Nat.le_refl _) (fun g hg => by cases hg); clear R_v32
        replace O_v32 : Kw.Own w42 w.heap.size 59 3 v32 ((C.take i).length) (flatT (C.take i)) := by rw [List.length_take, Nat.min_eq_left (by omega), Nat.zero_add, List.nil_append] at *; exact O_v32
        clear hS; have hS : Kw.At w42 gx #[.int .i64 k.1, .int .i64 k.2, .int .i64 a] 59 ∧ True := ⟨A_gx, trivial⟩
        refine ⟨hS, ?_⟩
        refine Kw.WZ_only ?_
        refine Kw.WO_append rfl rfl rfl rfl rfl Try.underlying38 Try.underlying38 (.inr ⟨_, rfl⟩) F.sz59 F.by59 F.ze59 rfl O_v32 (Kw.News.row (news := [.int .i64 k.1, .int .i64 k.2, .int .i64 a]) A_g34 rfl rfl (by simp [Value.oneCell'])) (by unfold maxLen; rw [List.length_take]; omega) (by rw [List.length_take]; omega) HB.size ?_; intro v35 w43 O_v35 R_v35
        have D_v35_gk := R_v35.ne A_gk D_v32_gk
        replace A_gk := R_v35.keep A_gk D_v32_gk
        have D_v35_gx := R_v35.ne A_gx D_v32_gx
        replace A_gx := R_v35.keep A_gx D_v32_gx
        have D_v35_gc := R_v35.ne A_gc D_v32_gc
        replace A_gc := R_v35.keep A_gc D_v32_gc
        have D_v35_g34 := R_v35.ne A_g34 D_v32_g34
        replace A_g34 := R_v35.keep A_g34 D_v32_g34
        replace HB := R_v35.below HB (Nat.le_refl _) (fun g hg => O_v32.ge hg); clear R_v35
        replace O_v35 : Kw.Own w43 w.heap.size 59 3 v35 ((C.take i ++ [(k, a)]).length) (flatT (C.take i ++ [(k, a)])) := by rw [flatT_app, List.length_append, flatT_one]; exact O_v35
        clear O_v32
        clear A_g34
        clear hS; have hS : Kw.At w43 gx #[.int .i64 k.1, .int .i64 k.2, .int .i64 a] 59 ∧ True := ⟨A_gx, trivial⟩
        refine ⟨hS, ?_⟩
        refine Kw.WZ_only ?_
        refine Kw.WO_append rfl rfl rfl rfl rfl Try.underlying38 Try.underlying38 (.inr ⟨_, rfl⟩) F.sz59 F.by59 F.ze59 rfl O_v35 (Kw.News.row (news := flatT (C.drop i)) A_gc (pieceT htc hcc (by omega) hoq) (by rw [flatT_length, List.length_drop]) (flatT_onec _)) (by unfold maxLen; rw [List.length_append, List.length_take]; simp only [List.length_singleton]; omega) (by rw [List.length_append, List.length_take]; simp only [List.length_singleton]; omega) HB.size ?_; intro v39 w44 O_v39 R_v39
        have D_v39_gk := R_v39.ne A_gk D_v35_gk
        replace A_gk := R_v39.keep A_gk D_v35_gk
        have D_v39_gx := R_v39.ne A_gx D_v35_gx
        replace A_gx := R_v39.keep A_gx D_v35_gx
        have D_v39_gc := R_v39.ne A_gc D_v35_gc
        replace A_gc := R_v39.keep A_gc D_v35_gc
        replace HB := R_v39.below HB (Nat.le_refl _) (fun g hg => O_v35.ge hg); clear R_v39
        replace O_v39 : Kw.Own w44 w.heap.size 59 3 v39 ((insT C i (k, a)).length) (flatT (insT C i (k, a))) := by rw [insT_app, flatT_app, List.length_append (bs := C.drop i), List.length_drop]; exact O_v39
        clear O_v35
        clear hS; have hS : Kw.At w44 gx #[.int .i64 k.1, .int .i64 k.2, .int .i64 a] 59 ∧ True := ⟨A_gx, trivial⟩
        refine ⟨hS, ?_⟩
        refine Kw.WZ_take rfl rfl rfl rfl (fun _ _ _ h => h) hS (fun _ ⟨A_gx, _⟩ => Kw.R_assign rfl) ?_
        refine Kw.WZ_nil ?_
        clear hS
        refine hK27 _ _ ?_; clear hK27 K27
        refine Kw.WC_sub (l' := [(6, v39)]) (Kw.Sub.cons rfl Kw.Sub.nil) ?_
        refine Kw.WC_ret ?_
        subst hC
        exact Kw.post_ret1 rfl rfl ⟨_, rfl, ⟨i, hi, hq, fun h => by omega, O_v39⟩, HB⟩
end Go.Proofs.Ytidoilcgdfhfiaa.Fn
