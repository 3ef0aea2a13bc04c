/- TimersNone answers true. -/
import Derived.Test.YtidoilcgdfhfiaaTm5
namespace Go.Proofs.Ytidoilcgdfhfiaa.Fn
open Go Go.Proofs Go.RowKit
set_option linter.unusedVariables false
set_option linter.unusedSimpArgs false
set_option maxRecDepth 100000 in
set_option maxHeartbeats 4000000 in
theorem TimersNone_c (kd : Int) (k : Int × Int) (a : Int) (w : World) : Calls Try.prog 5 #[.agg #[.int .u8 kd, .int .i64 k.1, .int .i64 k.2, .int .i64 a]] w fun e w' => e = .returned (.bool true) ∧ Below w.heap.size w w' := by
  have HB : Below w.heap.size w w := Below.refl _ _
  refine Kw.enter Try.func5 rfl Try.ntmps5 rfl rfl ?_
  refine Kw.WC_seq (fun K1 hK1 => ?_)
  refine Kw.WC_region [some 1, some 2] rfl ?_
  refine Kw.WL_box rfl rfl rfl ?_; intro gx w2 N_gx
  have A_gx : Kw.At w2 gx #[.int .u8 kd, .int .i64 k.1, .int .i64 k.2, .int .i64 a] 40 := N_gx.at_
  have G_gx := N_gx.ge HB (Nat.le_refl _); replace HB := N_gx.below HB (Nat.le_refl _); clear N_gx
  refine Kw.WL_v rfl rfl rfl (Kw.R_assign rfl) ?_
  refine Kw.WL_nil ?_
  refine hK1 _ _ ?_; clear hK1 K1
  refine Kw.WC_seq (fun K3 hK3 => ?_)
  refine Kw.WC_region [some 3] rfl ?_
  refine Kw.WL_v rfl rfl rfl (Kw.R_assign rfl) ?_
  refine Kw.WL_nil ?_
  refine hK3 _ _ ?_; clear hK3 K3
  refine Kw.WC_seq (fun K4 hK4 => ?_)
  refine Kw.WC_seq (fun K5 hK5 => ?_)
  refine Kw.WC_region [some 4] rfl ?_
  refine Kw.WL_v rfl rfl rfl (Kw.R_assign rfl) ?_
  refine Kw.WL_nil ?_
  refine hK5 _ _ ?_; clear hK5 K5
  refine Kw.WC_block ?_
  refine Kw.WC_loop (ι := Nat × Value) (fun (q : Nat × Value) (ww : World) => match q with | ⟨i, v⟩ => ((i = 0 ∧ v = .pointer none) ∨ (1 ≤ i ∧ ∃ tb, v = .pointer (some ⟨tb, 0, none⟩) ∧ Kw.At ww tb #[.map none] 52 ∧ w.heap.size ≤ tb)) ∧ Kw.At ww gx #[.int .u8 kd, .int .i64 k.1, .int .i64 k.2, .int .i64 a] 40 ∧ Below w.heap.size w ww) (fun (q : Nat × Value) => match q with | ⟨i, v⟩ => [(1, .pointer (some ⟨gx, 0, none⟩)), (3, v), (4, .int .i64 (i : Int))]) (fun (q : Nat × Value) => match q with | ⟨i, v⟩ => 2 - i) (0, .pointer none) ⟨.inl ⟨rfl, rfl⟩, A_gx, HB⟩ (Kw.Sub.cons rfl (Kw.Sub.cons rfl (Kw.Sub.cons rfl Kw.Sub.nil))) ?_
  clear A_gx
  clear HB
  rintro ⟨i, v⟩ w6 ⟨hv, A_gx, HB⟩
  dsimp only at *
  refine Kw.WC_seq (fun K7 hK7 => ?_)
  refine Kw.WC_seq (fun K8 hK8 => ?_)
  refine Kw.WC_region [some 7, some 8] rfl ?_
  rcases hv with ⟨rfl, rfl⟩ | ⟨hi1, tb, rfl, A_tb, G_tb⟩
  ·
    refine Kw.WL_v rfl rfl rfl (Kw.R_move rfl) ?_
    refine Kw.WL_v rfl rfl rfl (Kw.R_lss (z := true) rfl rfl (decide_eq_true (by omega))) ?_
    refine Kw.WL_nil ?_
    refine hK8 _ _ ?_; clear hK8 K8
    refine Kw.WC_true rfl ?_
    refine Kw.WC_skip ?_
    refine hK7 _ _ ?_; clear hK7 K7
    refine Kw.WC_seq (fun K9 hK9 => ?_)
    refine Kw.WC_block ?_
    refine Kw.WC_seq (fun K10 hK10 => ?_)
    refine Kw.WC_region [some 11, some 12, some 13, some 14, some 15, some 16] rfl ?_
    refine Kw.WL_v rfl rfl rfl (Kw.R_move rfl) ?_
    refine Kw.WL_v rfl rfl rfl (Kw.R_fieldAddr (o' := 1) (k := 1) rfl Try.underlying40 rfl F.sz29 rfl) ?_
    refine Kw.WL_v rfl rfl rfl (Kw.R_loadN (ds := #[.int .i64 k.1, .int .i64 k.2]) rfl Try.underlying29 rfl F.sz29 A_gx (by show _ ≤ 4; decide) (rfl)) ?_
    refine Kw.WL_v rfl rfl rfl (Kw.R_fieldAddr (o' := 3) (k := 0) rfl Try.underlying40 rfl F.sz3 rfl) ?_
    refine Kw.WL_v rfl rfl rfl (Kw.R_load1 rfl Try.underlying3 rfl A_gx rfl) ?_
    refine Kw.WL_callc rfl rfl rfl rfl F.cl8 rfl (set_nil k a _) ?_; intro w11 bw11
    replace A_gx := A_gx.call bw11
    replace HB := Kw.Below.then HB (Nat.le_refl _) bw11
    clear bw11
    refine Kw.WL_nil ?_
    refine hK10 _ _ ?_; clear hK10 K10
    refine Kw.WC_sub (l' := [(1, .pointer (some ⟨gx, 0, none⟩)), (3, .pointer none), (4, .int .i64 (0 : Int))]) (Kw.Sub.cons rfl (Kw.Sub.cons rfl (Kw.Sub.cons rfl Kw.Sub.nil))) ?_
    refine Kw.WC_seq (fun K12 hK12 => ?_)
    refine Kw.WC_region [some 17, some 18, some 19, some 20] rfl ?_
    refine Kw.WL_v rfl rfl rfl (Kw.R_move rfl) ?_
    refine Kw.WL_v rfl rfl rfl (Kw.R_fieldAddr (o' := 1) (k := 1) rfl Try.underlying40 rfl F.sz29 rfl) ?_
    refine Kw.WL_v rfl rfl rfl (Kw.R_loadN (ds := #[.int .i64 k.1, .int .i64 k.2]) rfl Try.underlying29 rfl F.sz29 A_gx (by show _ ≤ 4; decide) (rfl)) ?_
    refine Kw.WL_callc rfl rfl rfl rfl F.cl11 rfl (clear_nil k _) ?_; intro w13 bw13
    replace A_gx := A_gx.call bw13
    replace HB := Kw.Below.then HB (Nat.le_refl _) bw13
    clear bw13
    refine Kw.WL_nil ?_
    refine hK12 _ _ ?_; clear hK12 K12
    refine Kw.WC_seq (fun K14 hK14 => ?_)
    refine Kw.WC_region [some 22, some 23, some 24, some 25, some 21, some 26, some 27, some 5, some 6] rfl ?_
    refine Kw.WL_v rfl rfl rfl (Kw.R_move rfl) ?_
    refine Kw.WL_v rfl rfl rfl (Kw.R_fieldAddr (o' := 1) (k := 1) rfl Try.underlying40 rfl F.sz29 rfl) ?_
    refine Kw.WL_v rfl rfl rfl (Kw.R_loadN (ds := #[.int .i64 k.1, .int .i64 k.2]) rfl Try.underlying29 rfl F.sz29 A_gx (by show _ ≤ 4; decide) (rfl)) ?_
    refine Kw.WL_callc rfl rfl rfl rfl F.cl10 rfl (at_nil k _) ?_; intro w15 bw15
    replace A_gx := A_gx.call bw15
    replace HB := Kw.Below.then HB (Nat.le_refl _) bw15
    clear bw15
    refine Kw.WL_v rfl rfl rfl (Kw.R_move rfl) ?_
    refine Kw.WL_v rfl rfl rfl (Kw.R_extract (v := .int .i64 0) rfl rfl) ?_
    refine Kw.WL_v rfl rfl rfl (Kw.R_extract (v := .bool false) rfl rfl) ?_
    refine Kw.WL_v rfl rfl rfl (Kw.R_assign rfl) ?_
    refine Kw.WL_v rfl rfl rfl (Kw.R_assign rfl) ?_
    refine Kw.WL_nil ?_
    refine hK14 _ _ ?_; clear hK14 K14
    refine Kw.WC_sub (l' := [(1, .pointer (some ⟨gx, 0, none⟩)), (3, .pointer none), (4, .int .i64 (0 : Int)), (5, .int .i64 0), (6, .bool false)]) (Kw.Sub.cons rfl (Kw.Sub.cons rfl (Kw.Sub.cons rfl (Kw.Sub.cons rfl (Kw.Sub.cons rfl Kw.Sub.nil))))) ?_
    refine Kw.WC_seq (fun K16 hK16 => ?_)
    refine Kw.WC_seq (fun K17 hK17 => ?_)
    refine Kw.WC_region [some 28, some 29, some 30, some 31, some 32, some 33, some 34, some 35, some 36, some 37, some 38, some 39, some 40, some 41, some 42, some 43, some 44, some 45] rfl ?_
    refine Kw.WL_v rfl rfl rfl (Kw.R_move rfl) ?_
    refine Kw.WL_v rfl rfl rfl (Kw.R_nei (z := false) rfl rfl (decide_eq_true rfl)) ?_
    refine Kw.WL_v rfl rfl rfl (Kw.R_move rfl) ?_
    refine Kw.WL_v rfl rfl rfl (Kw.R_move rfl) ?_
    refine Kw.WL_v rfl rfl rfl (Kw.R_pickf rfl rfl) ?_
    refine Kw.WL_v rfl rfl rfl (Kw.R_move rfl) ?_
    refine Kw.WL_v rfl rfl rfl (Kw.R_move rfl) ?_
    refine Kw.WL_v rfl rfl rfl (Kw.R_fieldAddr (o' := 3) (k := 0) rfl Try.underlying40 rfl F.sz3 rfl) ?_
    refine Kw.WL_v rfl rfl rfl (Kw.R_load1 rfl Try.underlying3 rfl A_gx rfl) ?_
    refine Kw.WL_callc rfl rfl rfl rfl F.cl9 rfl (due_nil a _) ?_; intro w18 bw18
    replace A_gx := A_gx.call bw18
    replace HB := Kw.Below.then HB (Nat.le_refl _) bw18
    clear bw18
    refine Kw.WL_v rfl rfl rfl (Kw.R_lenl Try.underlying32 rfl) ?_
    refine Kw.WL_v rfl rfl rfl (Kw.R_nei (z := false) rfl rfl (decide_eq_true rfl)) ?_
    refine Kw.WL_v rfl rfl rfl (Kw.R_pickf rfl rfl) ?_
    refine Kw.WL_v rfl rfl rfl (Kw.R_move rfl) ?_
    refine Kw.WL_v rfl rfl rfl (Kw.R_move rfl) ?_
    refine Kw.WL_callc rfl rfl rfl rfl F.cl15 rfl (copy_nil  _) ?_; intro w19 bw19
    replace A_gx := A_gx.call bw19
    replace HB := Kw.Below.then HB (Nat.le_refl _) bw19
    clear bw19
    refine Kw.WL_v rfl rfl rfl (Kw.R_nepn rfl rfl Try.underlying25 rfl) ?_
    refine Kw.WL_v rfl rfl rfl (Kw.R_pickf rfl rfl) ?_
    refine Kw.WL_nil ?_
    refine hK17 _ _ ?_; clear hK17 K17
    refine Kw.WC_sub (l' := [(1, .pointer (some ⟨gx, 0, none⟩)), (4, .int .i64 (0 : Int)), (31, .bool false), (34, .pointer none), (35, .pointer (some ⟨gx, 3, none⟩)), (36, .int .i64 a), (37, .slice none 0 0), (38, .int .i64 (0 : Int)), (39, .bool false), (42, .pointer none), (43, .pointer none), (44, .bool false), (45, .bool false)]) (Kw.Sub.cons rfl (Kw.Sub.cons rfl (Kw.Sub.cons rfl (Kw.Sub.cons rfl (Kw.Sub.cons rfl (Kw.Sub.cons rfl (Kw.Sub.cons rfl (Kw.Sub.cons rfl (Kw.Sub.cons rfl (Kw.Sub.cons rfl (Kw.Sub.cons rfl (Kw.Sub.cons rfl (Kw.Sub.cons rfl Kw.Sub.nil))))))))))))) ?_
    refine Kw.WC_false rfl ?_
    refine Kw.WC_skip ?_
    refine hK16 _ _ ?_; clear hK16 K16
    refine Kw.WC_region [some 46, some 47, some 3] rfl ?_
    refine Kw.WL_v rfl rfl rfl (F.R_bz52) ?_
    refine Kw.WL_box rfl rfl rfl ?_; intro t2 w20 N_t2
    have L_gx_t2 := N_t2.ne A_gx; replace A_gx := N_t2.keep A_gx
    have A_t2 : Kw.At w20 t2 F.Z52 52 := N_t2.at_
    have G_t2 := N_t2.ge HB (Nat.le_refl _); replace HB := N_t2.below HB (Nat.le_refl _); clear N_t2
    refine Kw.WL_v rfl rfl rfl (Kw.R_assign rfl) ?_
    refine Kw.WL_nil ?_
    refine Kw.QN_block ?_
    refine hK9 _ _ ?_; clear hK9 K9
    refine Kw.WC_region [some 9, some 10, some 4] rfl ?_
    refine Kw.WL_v rfl rfl rfl (Kw.R_move rfl) ?_
    refine Kw.WL_v rfl rfl rfl (Kw.R_add (c := ((0 + 1 : Nat) : Int)) rfl rfl (by rw [Kw.wrap_i64 (by omega)]; omega)) ?_
    refine Kw.WL_v rfl rfl rfl (Kw.R_assign rfl) ?_
    refine Kw.WL_nil ?_
    refine Kw.QN_round ((0 + 1, .pointer (some ⟨t2, 0, none⟩))) ⟨.inr ⟨by omega, t2, rfl, A_t2, G_t2⟩, A_gx, HB⟩ (by dsimp only; omega) (Kw.Sub.cons rfl (Kw.Sub.cons rfl (Kw.Sub.cons rfl Kw.Sub.nil)))
  ·
    refine Kw.WL_v rfl rfl rfl (Kw.R_move rfl) ?_
    by_cases c21 : (i : Int) < (2 : Int)
    ·
      refine Kw.WL_v rfl rfl rfl (Kw.R_lss (z := true) rfl rfl (decide_eq_true c21)) ?_
      refine Kw.WL_nil ?_
      refine hK8 _ _ ?_; clear hK8 K8
      refine Kw.WC_true rfl ?_
      refine Kw.WC_skip ?_
      refine hK7 _ _ ?_; clear hK7 K7
      refine Kw.WC_seq (fun K22 hK22 => ?_)
      refine Kw.WC_block ?_
      refine Kw.WC_seq (fun K23 hK23 => ?_)
      refine Kw.WC_region [some 11, some 12, some 13, some 14, some 15, some 16] rfl ?_
      refine Kw.WL_v rfl rfl rfl (Kw.R_move rfl) ?_
      refine Kw.WL_v rfl rfl rfl (Kw.R_fieldAddr (o' := 1) (k := 1) rfl Try.underlying40 rfl F.sz29 rfl) ?_
      refine Kw.WL_v rfl rfl rfl (Kw.R_loadN (ds := #[.int .i64 k.1, .int .i64 k.2]) rfl Try.underlying29 rfl F.sz29 A_gx (by show _ ≤ 4; decide) (rfl)) ?_
      refine Kw.WL_v rfl rfl rfl (Kw.R_fieldAddr (o' := 3) (k := 0) rfl Try.underlying40 rfl F.sz3 rfl) ?_
      refine Kw.WL_v rfl rfl rfl (Kw.R_load1 rfl Try.underlying3 rfl A_gx rfl) ?_
      refine Kw.WL_callc rfl rfl rfl rfl F.cl8 rfl (set_zero k a _ tb A_tb) ?_; intro w24 bw24
      replace A_gx := A_gx.call bw24
      replace A_tb := A_tb.call bw24
      replace HB := Kw.Below.then HB (Nat.le_refl _) bw24
      clear bw24
      refine Kw.WL_nil ?_
      refine hK23 _ _ ?_; clear hK23 K23
      refine Kw.WC_sub (l' := [(1, .pointer (some ⟨gx, 0, none⟩)), (3, .pointer (some ⟨tb, 0, none⟩)), (4, .int .i64 (i : Int))]) (Kw.Sub.cons rfl (Kw.Sub.cons rfl (Kw.Sub.cons rfl Kw.Sub.nil))) ?_
      refine Kw.WC_seq (fun K25 hK25 => ?_)
      refine Kw.WC_region [some 17, some 18, some 19, some 20] rfl ?_
      refine Kw.WL_v rfl rfl rfl (Kw.R_move rfl) ?_
      refine Kw.WL_v rfl rfl rfl (Kw.R_fieldAddr (o' := 1) (k := 1) rfl Try.underlying40 rfl F.sz29 rfl) ?_
      refine Kw.WL_v rfl rfl rfl (Kw.R_loadN (ds := #[.int .i64 k.1, .int .i64 k.2]) rfl Try.underlying29 rfl F.sz29 A_gx (by show _ ≤ 4; decide) (rfl)) ?_
      refine Kw.WL_callc rfl rfl rfl rfl F.cl11 rfl (clear_zero k _ tb A_tb) ?_; intro w26 bw26
      replace A_gx := A_gx.call bw26
      replace A_tb := A_tb.call bw26
      replace HB := Kw.Below.then HB (Nat.le_refl _) bw26
      clear bw26
      refine Kw.WL_nil ?_
      refine hK25 _ _ ?_; clear hK25 K25
      refine Kw.WC_seq (fun K27 hK27 => ?_)
      refine Kw.WC_region [some 22, some 23, some 24, some 25, some 21, some 26, some 27, some 5, some 6] rfl ?_
      refine Kw.WL_v rfl rfl rfl (Kw.R_move rfl) ?_
      refine Kw.WL_v rfl rfl rfl (Kw.R_fieldAddr (o' := 1) (k := 1) rfl Try.underlying40 rfl F.sz29 rfl) ?_
      refine Kw.WL_v rfl rfl rfl (Kw.R_loadN (ds := #[.int .i64 k.1, .int .i64 k.2]) rfl Try.underlying29 rfl F.sz29 A_gx (by show _ ≤ 4; decide) (rfl)) ?_
      refine Kw.WL_callc rfl rfl rfl rfl F.cl10 rfl (at_zero k _ tb A_tb) ?_; intro w28 bw28
      replace A_gx := A_gx.call bw28
      replace A_tb := A_tb.call bw28
      replace HB := Kw.Below.then HB (Nat.le_refl _) bw28
      clear bw28
      refine Kw.WL_v rfl rfl rfl (Kw.R_move rfl) ?_
      refine Kw.WL_v rfl rfl rfl (Kw.R_extract (v := .int .i64 0) rfl rfl) ?_
      refine Kw.WL_v rfl rfl rfl (Kw.R_extract (v := .bool false) rfl rfl) ?_
      refine Kw.WL_v rfl rfl rfl (Kw.R_assign rfl) ?_
      refine Kw.WL_v rfl rfl rfl (Kw.R_assign rfl) ?_
      refine Kw.WL_nil ?_
      refine hK27 _ _ ?_; clear hK27 K27
      refine Kw.WC_sub (l' := [(1, .pointer (some ⟨gx, 0, none⟩)), (3, .pointer (some ⟨tb, 0, none⟩)), (4, .int .i64 (i : Int)), (5, .int .i64 0), (6, .bool false)]) (Kw.Sub.cons rfl (Kw.Sub.cons rfl (Kw.Sub.cons rfl (Kw.Sub.cons rfl (Kw.Sub.cons rfl Kw.Sub.nil))))) ?_
      refine Kw.WC_seq (fun K29 hK29 => ?_)
      refine Kw.WC_seq (fun K30 hK30 => ?_)
      refine Kw.WC_region [some 28, some 29, some 30, some 31, some 32, some 33, some 34, some 35, some 36, some 37, some 38, some 39, some 40, some 41, some 42, some 43, some 44, some 45] rfl ?_
      refine Kw.WL_v rfl rfl rfl (Kw.R_move rfl) ?_
      refine Kw.WL_v rfl rfl rfl (Kw.R_nei (z := false) rfl rfl (decide_eq_true rfl)) ?_
      refine Kw.WL_v rfl rfl rfl (Kw.R_move rfl) ?_
      refine Kw.WL_v rfl rfl rfl (Kw.R_move rfl) ?_
      refine Kw.WL_v rfl rfl rfl (Kw.R_pickf rfl rfl) ?_
      refine Kw.WL_v rfl rfl rfl (Kw.R_move rfl) ?_
      refine Kw.WL_v rfl rfl rfl (Kw.R_move rfl) ?_
      refine Kw.WL_v rfl rfl rfl (Kw.R_fieldAddr (o' := 3) (k := 0) rfl Try.underlying40 rfl F.sz3 rfl) ?_
      refine Kw.WL_v rfl rfl rfl (Kw.R_load1 rfl Try.underlying3 rfl A_gx rfl) ?_
      refine Kw.WL_callc rfl rfl rfl rfl F.cl9 rfl (due_zero a _ tb A_tb) ?_; intro w31 bw31
      replace A_gx := A_gx.call bw31
      replace A_tb := A_tb.call bw31
      replace HB := Kw.Below.then HB (Nat.le_refl _) bw31
      clear bw31
      refine Kw.WL_v rfl rfl rfl (Kw.R_lenl Try.underlying32 rfl) ?_
      refine Kw.WL_v rfl rfl rfl (Kw.R_nei (z := false) rfl rfl (decide_eq_true rfl)) ?_
      refine Kw.WL_v rfl rfl rfl (Kw.R_pickf rfl rfl) ?_
      refine Kw.WL_v rfl rfl rfl (Kw.R_move rfl) ?_
      refine Kw.WL_v rfl rfl rfl (Kw.R_move rfl) ?_
      refine Kw.WL_callc rfl rfl rfl rfl F.cl15 rfl (copy_zero  _ tb A_tb) ?_; intro w32 bw32
      replace A_gx := A_gx.call bw32
      replace A_tb := A_tb.call bw32
      replace HB := Kw.Below.then HB (Nat.le_refl _) bw32
      clear bw32
      refine Kw.WL_v rfl rfl rfl (Kw.R_nepn rfl rfl Try.underlying25 rfl) ?_
      refine Kw.WL_v rfl rfl rfl (Kw.R_pickf rfl rfl) ?_
      refine Kw.WL_nil ?_
      refine hK30 _ _ ?_; clear hK30 K30
      refine Kw.WC_sub (l' := [(1, .pointer (some ⟨gx, 0, none⟩)), (4, .int .i64 (i : Int)), (31, .bool false), (34, .pointer (some ⟨tb, 0, none⟩)), (35, .pointer (some ⟨gx, 3, none⟩)), (36, .int .i64 a), (37, .slice none 0 0), (38, .int .i64 (0 : Int)), (39, .bool false), (42, .pointer (some ⟨tb, 0, none⟩)), (43, .pointer none), (44, .bool false), (45, .bool false)]) (Kw.Sub.cons rfl (Kw.Sub.cons rfl (Kw.Sub.cons rfl (Kw.Sub.cons rfl (Kw.Sub.cons rfl (Kw.Sub.cons rfl (Kw.Sub.cons rfl (Kw.Sub.cons rfl (Kw.Sub.cons rfl (Kw.Sub.cons rfl (Kw.Sub.cons rfl (Kw.Sub.cons rfl (Kw.Sub.cons rfl Kw.Sub.nil))))))))))))) ?_
      refine Kw.WC_false rfl ?_
      refine Kw.WC_skip ?_
      refine hK29 _ _ ?_; clear hK29 K29
      refine Kw.WC_region [some 46, some 47, some 3] rfl ?_
      refine Kw.WL_v rfl rfl rfl (F.R_bz52) ?_
      refine Kw.WL_box rfl rfl rfl ?_; intro t2 w33 N_t2
      have L_gx_t2 := N_t2.ne A_gx; replace A_gx := N_t2.keep A_gx
      have L_tb_t2 := N_t2.ne A_tb; replace A_tb := N_t2.keep A_tb
      have A_t2 : Kw.At w33 t2 F.Z52 52 := N_t2.at_
      have G_t2 := N_t2.ge HB (Nat.le_refl _); replace HB := N_t2.below HB (Nat.le_refl _); clear N_t2
      refine Kw.WL_v rfl rfl rfl (Kw.R_assign rfl) ?_
      refine Kw.WL_nil ?_
      refine Kw.QN_block ?_
      refine hK22 _ _ ?_; clear hK22 K22
      refine Kw.WC_region [some 9, some 10, some 4] rfl ?_
      refine Kw.WL_v rfl rfl rfl (Kw.R_move rfl) ?_
      refine Kw.WL_v rfl rfl rfl (Kw.R_add (c := ((i + 1 : Nat) : Int)) rfl rfl (by rw [Kw.wrap_i64 (by omega)]; omega)) ?_
      refine Kw.WL_v rfl rfl rfl (Kw.R_assign rfl) ?_
      refine Kw.WL_nil ?_
      refine Kw.QN_round ((i + 1, .pointer (some ⟨t2, 0, none⟩))) ⟨.inr ⟨by omega, t2, rfl, A_t2, G_t2⟩, A_gx, HB⟩ (by dsimp only; omega) (Kw.Sub.cons rfl (Kw.Sub.cons rfl (Kw.Sub.cons rfl Kw.Sub.nil)))
    ·
      refine Kw.WL_v rfl rfl rfl (Kw.R_lss (z := false) rfl rfl (decide_eq_false c21)) ?_
      refine Kw.WL_nil ?_
      refine hK8 _ _ ?_; clear hK8 K8
      refine Kw.WC_false rfl ?_
      refine Kw.WC_exit ?_
      refine Kw.QE_then ?_; clear hK7 K7
      refine Kw.QE_then ?_
      refine Kw.QE_here ?_
      refine hK4 _ _ ?_; clear hK4 K4
      refine Kw.WC_seq (fun K34 hK34 => ?_)
      refine Kw.WC_region [some 48, some 2] rfl ?_
      refine Kw.WL_callc rfl rfl rfl rfl F.cl6 rfl (rang_c _) ?_; intro w35 bw35
      replace A_gx := A_gx.call bw35
      replace A_tb := A_tb.call bw35
      replace HB := Kw.Below.then HB (Nat.le_refl _) bw35
      clear bw35
      refine Kw.WL_v rfl rfl rfl (Kw.R_assign rfl) ?_
      refine Kw.WL_nil ?_
      refine hK34 _ _ ?_; clear hK34 K34
      refine Kw.WC_sub (l' := [(2, .bool true)]) (Kw.Sub.cons rfl Kw.Sub.nil) ?_
      refine Kw.WC_ret ?_
      exact Kw.post_ret1 rfl rfl ⟨rfl, HB⟩
end Go.Proofs.Ytidoilcgdfhfiaa.Fn
