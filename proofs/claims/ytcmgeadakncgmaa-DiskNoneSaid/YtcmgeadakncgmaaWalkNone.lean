/- DiskNone answers true. -/
import Derived.Test.YtcmgeadakncgmaaDm5
namespace Go.Proofs.Ytcmgeadakncgmaa.Fn
open Go Go.Proofs Go.RowKit
set_option linter.unusedVariables false
set_option linter.unusedSimpArgs false
set_option maxRecDepth 100000 in
set_option maxHeartbeats 4000000 in
theorem great_c (kd n a z : Int) (s : ByteArray) (gs : Nat) (w : World) (A_gs : Kw.At w gs #[.int .u8 kd, .int .i64 n, .int .i64 a, .int .i64 z, .string s] 42) : Calls Try.prog 20 #[.slice (some ⟨gs, 0, none⟩) 1 1, .int .i64 1] w fun e w' => e = .returned (.bool (decide (500 < s.size))) ∧ w' = w := by
  have HB : w = w := rfl
  refine Kw.enter Try.func20 rfl Try.ntmps20 rfl rfl ?_
  refine Kw.WC_seq (fun K1 hK1 => ?_)
  refine Kw.WC_region [some 4] rfl ?_
  refine Kw.WL_v rfl rfl rfl (Kw.R_assign rfl) ?_
  refine Kw.WL_nil ?_
  refine hK1 _ _ ?_; clear hK1 K1
  refine Kw.WC_seq (fun K2 hK2 => ?_)
  refine Kw.WC_seq (fun K3 hK3 => ?_)
  refine Kw.WC_region [some 5] rfl ?_
  refine Kw.WL_v rfl rfl rfl (Kw.R_assign rfl) ?_
  refine Kw.WL_nil ?_
  refine hK3 _ _ ?_; clear hK3 K3
  refine Kw.WC_block ?_
  refine Kw.WC_loop (ι := Nat) (fun (i : Nat) (ww : World) => (i ≤ 1 ∧ (0 < i → s.size ≤ 500)) ∧ Kw.At ww gs #[.int .u8 kd, .int .i64 n, .int .i64 a, .int .i64 z, .string s] 42 ∧ ww = w) (fun (i : Nat) => [(0, .slice (some ⟨gs, 0, none⟩) 1 1), (1, .int .i64 1), (5, .int .i64 (i : Int))]) (fun (i : Nat) => 1 - i) 0 ⟨⟨Nat.zero_le _, fun h => absurd h (Nat.lt_irrefl _)⟩, A_gs, HB⟩ (Kw.Sub.cons rfl (Kw.Sub.cons rfl (Kw.Sub.cons rfl Kw.Sub.nil))) ?_
  clear A_gs
  clear HB
  rintro i w4 ⟨⟨hi, hq⟩, A_gs, HB⟩
  refine Kw.WC_seq (fun K5 hK5 => ?_)
  refine Kw.WC_seq (fun K6 hK6 => ?_)
  refine Kw.WC_region [some 6, some 7, some 8, some 9] rfl ?_
  refine Kw.WL_v rfl rfl rfl (Kw.R_move rfl) ?_
  refine Kw.WL_v rfl rfl rfl (Kw.R_move rfl) ?_
  refine Kw.WL_v rfl rfl rfl (Kw.R_lenl (n := 1) Try.underlying44 rfl) ?_
  by_cases c7 : (i : Int) < (1 : Int)
  ·
    refine Kw.WL_v rfl rfl rfl (Kw.R_lss (z := true) rfl rfl (decide_eq_true c7)) ?_
    refine Kw.WL_nil ?_
    refine hK6 _ _ ?_; clear hK6 K6
    refine Kw.WC_true rfl ?_
    refine Kw.WC_skip ?_
    refine hK5 _ _ ?_; clear hK5 K5
    refine Kw.WC_seq (fun K8 hK8 => ?_)
    refine Kw.WC_block ?_
    refine Kw.WC_seq (fun K9 hK9 => ?_)
    refine Kw.WC_region [some 12, some 13, some 14, some 15, some 16, some 17, some 18] rfl ?_
    refine Kw.WL_v rfl rfl rfl (Kw.R_move rfl) ?_
    refine Kw.WL_v rfl rfl rfl (Kw.R_move rfl) ?_
    obtain rfl : i = 0 := by omega
    refine Kw.WL_v rfl rfl rfl (Kw.R_indexAddrS (i := 0) (b := gs) (o := 0) (o' := 0) rfl rfl Try.underlying44 F.sz42 (by omega) rfl) ?_
    refine Kw.WL_v rfl rfl rfl (Kw.R_fieldAddr (o' := 4) (k := 0) rfl Try.underlying42 rfl F.sz9 rfl) ?_
    refine Kw.WL_v rfl rfl rfl (Kw.R_load1 (v := .string s) rfl Try.underlying9 rfl A_gs rfl) ?_
    refine Kw.WL_v rfl rfl rfl (Kw.R_lens Try.underlying9 rfl) ?_
    by_cases c10 : (500 : Int) < (s.size : Int)
    ·
      refine Kw.WL_v rfl rfl rfl (Kw.R_gtr (z := true) rfl rfl (decide_eq_true c10)) ?_
      refine Kw.WL_nil ?_
      refine hK9 _ _ ?_; clear hK9 K9
      refine Kw.WC_sub (l' := [(0, .slice (some ⟨gs, 0, none⟩) 1 1), (1, .int .i64 1), (5, .int .i64 ((0 : Nat) : Int)), (18, .bool true)]) (Kw.Sub.cons rfl (Kw.Sub.cons rfl (Kw.Sub.cons rfl (Kw.Sub.cons rfl Kw.Sub.nil)))) ?_
      refine Kw.WC_true rfl ?_
      refine Kw.WC_seq (fun K11 hK11 => ?_)
      refine Kw.WC_region [some 4] rfl ?_
      refine Kw.WL_v rfl rfl rfl (Kw.R_assign rfl) ?_
      refine Kw.WL_nil ?_
      refine hK11 _ _ ?_; clear hK11 K11
      refine Kw.WC_ret ?_
      refine Kw.QR_block ?_
      refine Kw.QR_then ?_; clear hK8 K8
      refine Kw.QR_then ?_
      refine Kw.QR_block ?_
      refine Kw.QR_then ?_; clear hK2 K2
      rw [decide_eq_true (by omega)]
      exact Kw.post_ret1 rfl rfl ⟨rfl, HB⟩
    ·
      refine Kw.WL_v rfl rfl rfl (Kw.R_gtr (z := false) rfl rfl (decide_eq_false c10)) ?_
      refine Kw.WL_nil ?_
      refine hK9 _ _ ?_; clear hK9 K9
      refine Kw.WC_sub (l' := [(0, .slice (some ⟨gs, 0, none⟩) 1 1), (1, .int .i64 1), (5, .int .i64 ((0 : Nat) : Int)), (18, .bool false)]) (Kw.Sub.cons rfl (Kw.Sub.cons rfl (Kw.Sub.cons rfl (Kw.Sub.cons rfl Kw.Sub.nil)))) ?_
      refine Kw.WC_false rfl ?_
      refine Kw.WC_skip ?_
      refine Kw.QN_block ?_
      refine hK8 _ _ ?_; clear hK8 K8
      refine Kw.WC_region [some 10, some 11, some 5] rfl ?_
      refine Kw.WL_v rfl rfl rfl (Kw.R_move rfl) ?_
      refine Kw.WL_v rfl rfl rfl (Kw.R_add (c := ((0 + 1 : Nat) : Int)) rfl rfl (rfl)) ?_
      refine Kw.WL_v rfl rfl rfl (Kw.R_assign rfl) ?_
      refine Kw.WL_nil ?_
      refine Kw.QN_round (0 + 1) ⟨⟨by omega, fun _ => by omega⟩, A_gs, HB⟩ (by omega) (Kw.Sub.cons rfl (Kw.Sub.cons rfl (Kw.Sub.cons rfl Kw.Sub.nil)))
  ·
    refine Kw.WL_v rfl rfl rfl (Kw.R_lss (z := false) rfl rfl (decide_eq_false c7)) ?_
    refine Kw.WL_nil ?_
    refine hK6 _ _ ?_; clear hK6 K6
    refine Kw.WC_false rfl ?_
    refine Kw.WC_exit ?_
    refine Kw.QE_then ?_; clear hK5 K5
    refine Kw.QE_then ?_
    refine Kw.QE_here ?_
    refine hK2 _ _ ?_; clear hK2 K2
    refine Kw.WC_seq (fun K12 hK12 => ?_)
    refine Kw.WC_region [some 19, some 20, some 21, some 22, some 4] rfl ?_
    refine Kw.WL_v rfl rfl rfl (Kw.R_move rfl) ?_
    refine Kw.WL_v rfl rfl rfl (Kw.R_lenl (n := 1) Try.underlying44 rfl) ?_
    refine Kw.WL_v rfl rfl rfl (Kw.R_move rfl) ?_
    refine Kw.WL_v rfl rfl rfl (Kw.R_gtr (z := false) rfl rfl (decide_eq_false (by omega))) ?_
    refine Kw.WL_v rfl rfl rfl (Kw.R_assign rfl) ?_
    refine Kw.WL_nil ?_
    refine hK12 _ _ ?_; clear hK12 K12
    refine Kw.WC_sub (l' := [(4, .bool false)]) (Kw.Sub.cons rfl Kw.Sub.nil) ?_
    refine Kw.WC_ret ?_
    rw [decide_eq_false (by omega)]
    exact Kw.post_ret1 rfl rfl ⟨rfl, HB⟩

set_option maxRecDepth 100000 in
set_option maxHeartbeats 4000000 in
theorem DiskNone_c (kd n a z : Int) (s : ByteArray) (w : World) : Calls Try.prog 5 #[.agg #[.int .u8 kd, .int .i64 n, .int .i64 a, .int .i64 z, .string s]] w fun e w' => e = .returned (.bool true) ∧ Below w.heap.size w w' := by
  have HB : Below w.heap.size w w := Below.refl _ _
  refine Kw.enter Try.func5 rfl Try.ntmps5 rfl rfl ?_
  refine Kw.WC_seq (fun K1 hK1 => ?_)
  refine Kw.WC_region [some 1, some 2] rfl ?_
  refine Kw.WL_box rfl rfl rfl ?_; intro gx w2 N_gx
  have A_gx : Kw.At w2 gx #[.int .u8 kd, .int .i64 n, .int .i64 a, .int .i64 z, .string s] 42 := N_gx.at_
  have G_gx := N_gx.ge HB (Nat.le_refl _); replace HB := N_gx.below HB (Nat.le_refl _); clear N_gx
  refine Kw.WL_v rfl rfl rfl (Kw.R_assign rfl) ?_
  refine Kw.WL_nil ?_
  refine hK1 _ _ ?_; clear hK1 K1
  refine Kw.WC_seq (fun K3 hK3 => ?_)
  refine Kw.WC_seq (fun K4 hK4 => ?_)
  refine Kw.WC_region [some 9, some 10, some 11] rfl ?_
  refine Kw.WL_v rfl rfl rfl (Kw.R_loadW rfl Try.underlying42 rfl (by exact F.sz42) A_gx) ?_
  obtain ⟨gs, w5, N_gs⟩ : ∃ b_ w2_, Kw.Newb w2 b_ #[.int .u8 kd, .int .i64 n, .int .i64 a, .int .i64 z, .string s] 42 w2_ := ⟨_, _, rfl, rfl⟩
  refine Kw.WL_v rfl rfl rfl (Kw.R_buildSlice rfl (fun w => by kernel_rfl) N_gs) ?_
  have L_gx_gs := N_gs.ne A_gx; replace A_gx := N_gs.keep A_gx
  have A_gs : Kw.At w5 gs #[.int .u8 kd, .int .i64 n, .int .i64 a, .int .i64 z, .string s] 42 := N_gs.at_
  have G_gs := N_gs.ge HB (Nat.le_refl _); replace HB := N_gs.below HB (Nat.le_refl _); clear N_gs
  have hgr := great_c kd n a z s gs w5 A_gs
  by_cases hbig : 500 < s.size
  ·
    rw [decide_eq_true hbig] at hgr
    refine Kw.WL_callc rfl rfl rfl rfl F.cl20 rfl (hgr) ?_; intro ww hww; rw [hww]; clear hww ww
    refine Kw.WL_nil ?_
    refine hK4 _ _ ?_; clear hK4 K4
    refine Kw.WC_true rfl ?_
    refine Kw.WC_seq (fun K6 hK6 => ?_)
    refine Kw.WC_region [some 12, some 2] rfl ?_
    refine Kw.WL_callc rfl rfl rfl rfl F.cl6 rfl (stored_c _) ?_; intro w7 bw7
    replace A_gx := A_gx.call bw7
    replace A_gs := A_gs.call bw7
    replace HB := Kw.Below.then HB (Nat.le_refl _) bw7
    clear bw7
    refine Kw.WL_v rfl rfl rfl (Kw.R_assign rfl) ?_
    refine Kw.WL_nil ?_
    refine hK6 _ _ ?_; clear hK6 K6
    refine Kw.WC_sub (l' := [(2, .bool true)]) (Kw.Sub.cons rfl Kw.Sub.nil) ?_
    refine Kw.WC_ret ?_
    refine Kw.QR_then ?_; clear hK3 K3
    exact Kw.post_ret1 rfl rfl ⟨rfl, HB⟩
  ·
    rw [decide_eq_false hbig] at hgr
    refine Kw.WL_callc rfl rfl rfl rfl F.cl20 rfl (hgr) ?_; intro ww hww; rw [hww]; clear hww ww
    clear A_gs
    refine Kw.WL_nil ?_
    refine hK4 _ _ ?_; clear hK4 K4
    refine Kw.WC_false rfl ?_
    refine Kw.WC_skip ?_
    refine hK3 _ _ ?_; clear hK3 K3
    refine Kw.WC_seq (fun K8 hK8 => ?_)
    refine Kw.WC_region [some 3] rfl ?_
    refine Kw.WL_v rfl rfl rfl (Kw.R_assign rfl) ?_
    refine Kw.WL_nil ?_
    refine hK8 _ _ ?_; clear hK8 K8
    refine Kw.WC_seq (fun K9 hK9 => ?_)
    refine Kw.WC_seq (fun K10 hK10 => ?_)
    refine Kw.WC_region [some 4] rfl ?_
    refine Kw.WL_v rfl rfl rfl (Kw.R_assign rfl) ?_
    refine Kw.WL_nil ?_
    refine hK10 _ _ ?_; clear hK10 K10
    refine Kw.WC_block ?_
    refine Kw.WC_loop (ι := Nat × Value) (fun (q : Nat × Value) (ww : World) => match q with | ⟨i, v⟩ => ((i = 0 ∧ v = .pointer none) ∨ (1 ≤ i ∧ ∃ tb, v = .pointer (some ⟨tb, 0, none⟩) ∧ Kw.At ww tb #[.map none, .slice none 0 0, .int .i64 0, .bool false, .int .i64 0, .bool false, .int .i64 0, .int .i64 0] 52 ∧ w.heap.size ≤ tb)) ∧ Kw.At ww gx #[.int .u8 kd, .int .i64 n, .int .i64 a, .int .i64 z, .string s] 42 ∧ Below w.heap.size w ww) (fun (q : Nat × Value) => match q with | ⟨i, v⟩ => [(1, .pointer (some ⟨gx, 0, none⟩)), (3, v), (4, .int .i64 (i : Int))]) (fun (q : Nat × Value) => match q with | ⟨i, v⟩ => 2 - i) (0, .pointer none) ⟨.inl ⟨rfl, rfl⟩, A_gx, HB⟩ (Kw.Sub.cons rfl (Kw.Sub.cons rfl (Kw.Sub.cons rfl Kw.Sub.nil))) ?_
    clear A_gx
    clear HB
    rintro ⟨i, v⟩ w11 ⟨hv, A_gx, HB⟩
    dsimp only at *
    refine Kw.WC_seq (fun K12 hK12 => ?_)
    refine Kw.WC_seq (fun K13 hK13 => ?_)
    refine Kw.WC_region [some 13, some 14] rfl ?_
    rcases hv with ⟨rfl, rfl⟩ | ⟨hi1, tb, rfl, A_tb, G_tb⟩
    ·
      refine Kw.WL_v rfl rfl rfl (Kw.R_move rfl) ?_
      refine Kw.WL_v rfl rfl rfl (Kw.R_lss (z := true) rfl rfl (decide_eq_true (by omega))) ?_
      refine Kw.WL_nil ?_
      refine hK13 _ _ ?_; clear hK13 K13
      refine Kw.WC_true rfl ?_
      refine Kw.WC_skip ?_
      refine hK12 _ _ ?_; clear hK12 K12
      refine Kw.WC_seq (fun K14 hK14 => ?_)
      refine Kw.WC_block ?_
      refine Kw.WC_seq (fun K15 hK15 => ?_)
      refine Kw.WC_region [some 18, some 19, some 20, some 21, some 22, some 23, some 24, some 25, some 17, some 26, some 27, some 5, some 6] rfl ?_
      refine Kw.WL_v rfl rfl rfl (Kw.R_move rfl) ?_
      refine Kw.WL_v rfl rfl rfl (Kw.R_fieldAddr (o' := 1) (k := 0) rfl Try.underlying42 rfl F.sz3 rfl) ?_
      refine Kw.WL_v rfl rfl rfl (Kw.R_load1 (v := .int .i64 n) rfl Try.underlying3 rfl A_gx rfl) ?_
      refine Kw.WL_v rfl rfl rfl (Kw.R_fieldAddr (o' := 2) (k := 0) rfl Try.underlying42 rfl F.sz3 rfl) ?_
      refine Kw.WL_v rfl rfl rfl (Kw.R_load1 (v := .int .i64 a) rfl Try.underlying3 rfl A_gx rfl) ?_
      refine Kw.WL_v rfl rfl rfl (Kw.R_fieldAddr (o' := 3) (k := 0) rfl Try.underlying42 rfl F.sz3 rfl) ?_
      refine Kw.WL_v rfl rfl rfl (Kw.R_load1 (v := .int .i64 z) rfl Try.underlying3 rfl A_gx rfl) ?_
      refine Kw.WL_callc rfl rfl rfl rfl F.cl21 rfl (read_nil  _  n a z) ?_; intro ww hww; rw [hww]; clear hww ww
      refine Kw.WL_v rfl rfl rfl (Kw.R_move rfl) ?_
      refine Kw.WL_v rfl rfl rfl (Kw.R_extract (v := .string ⟨#[]⟩) rfl rfl) ?_
      refine Kw.WL_v rfl rfl rfl (Kw.R_extract (v := .int .i64 1) rfl rfl) ?_
      refine Kw.WL_v rfl rfl rfl (Kw.R_assign rfl) ?_
      refine Kw.WL_v rfl rfl rfl (Kw.R_assign rfl) ?_
      refine Kw.WL_nil ?_
      refine hK15 _ _ ?_; clear hK15 K15
      refine Kw.WC_sub (l' := [(1, .pointer (some ⟨gx, 0, none⟩)), (3, .pointer none), (4, .int .i64 (0 : Int)), (5, .string ⟨#[]⟩), (6, .int .i64 1)]) (Kw.Sub.cons rfl (Kw.Sub.cons rfl (Kw.Sub.cons rfl (Kw.Sub.cons rfl (Kw.Sub.cons rfl Kw.Sub.nil))))) ?_
      refine Kw.WC_seq (fun K16 hK16 => ?_)
      refine Kw.WC_region [some 29, some 30, some 31, some 32, some 28, some 33, some 34, some 7, some 8] rfl ?_
      refine Kw.WL_v rfl rfl rfl (Kw.R_move rfl) ?_
      refine Kw.WL_v rfl rfl rfl (Kw.R_fieldAddr (o' := 1) (k := 0) rfl Try.underlying42 rfl F.sz3 rfl) ?_
      refine Kw.WL_v rfl rfl rfl (Kw.R_load1 (v := .int .i64 n) rfl Try.underlying3 rfl A_gx rfl) ?_
      refine Kw.WL_callc rfl rfl rfl rfl F.cl22 rfl (size_nil  _  n) ?_; intro ww hww; rw [hww]; clear hww ww
      refine Kw.WL_v rfl rfl rfl (Kw.R_move rfl) ?_
      refine Kw.WL_v rfl rfl rfl (Kw.R_extract (v := .int .i64 0) rfl rfl) ?_
      refine Kw.WL_v rfl rfl rfl (Kw.R_extract (v := .int .i64 1) rfl rfl) ?_
      refine Kw.WL_v rfl rfl rfl (Kw.R_assign rfl) ?_
      refine Kw.WL_v rfl rfl rfl (Kw.R_assign rfl) ?_
      refine Kw.WL_nil ?_
      refine hK16 _ _ ?_; clear hK16 K16
      refine Kw.WC_sub (l' := [(1, .pointer (some ⟨gx, 0, none⟩)), (3, .pointer none), (4, .int .i64 (0 : Int)), (5, .string ⟨#[]⟩), (6, .int .i64 1), (7, .int .i64 0), (8, .int .i64 1)]) (Kw.Sub.cons rfl (Kw.Sub.cons rfl (Kw.Sub.cons rfl (Kw.Sub.cons rfl (Kw.Sub.cons rfl (Kw.Sub.cons rfl (Kw.Sub.cons rfl Kw.Sub.nil))))))) ?_
      refine Kw.WC_seq (fun K17 hK17 => ?_)
      refine Kw.WC_seq (fun K18 hK18 => ?_)
      refine Kw.WC_region [some 35, some 36, some 37, some 38, some 39, some 40, some 41, some 42, some 43, some 44, some 45, some 46, some 47, some 48, some 49, some 50, some 51, some 52, some 53, some 54, some 55, some 56, some 57, some 58, some 59, some 60, some 61, some 62, some 63, some 64, some 65, some 66, some 67, some 68, some 69, some 70, some 71, some 72, some 73, some 74, some 75, some 76, some 77, some 78, some 79, some 80, some 81, some 82, some 83, some 84, some 85] rfl ?_
      refine Kw.WL_v rfl rfl rfl (Kw.R_move rfl) ?_
      refine Kw.WL_v rfl rfl rfl (Kw.R_nes (z := false) rfl rfl (decide_eq_true rfl)) ?_
      refine Kw.WL_v rfl rfl rfl (Kw.R_move rfl) ?_
      refine Kw.WL_v rfl rfl rfl (Kw.R_move rfl) ?_
      refine Kw.WL_v rfl rfl rfl (Kw.R_nei (z := false) rfl rfl (decide_eq_true (by omega))) ?_
      refine Kw.WL_v rfl rfl rfl (Kw.R_pickf rfl rfl) ?_
      refine Kw.WL_v rfl rfl rfl (Kw.R_move rfl) ?_
      refine Kw.WL_v rfl rfl rfl (Kw.R_move rfl) ?_
      refine Kw.WL_v rfl rfl rfl (Kw.R_nei (z := false) rfl rfl (decide_eq_true (by omega))) ?_
      refine Kw.WL_v rfl rfl rfl (Kw.R_pickf rfl rfl) ?_
      refine Kw.WL_v rfl rfl rfl (Kw.R_move rfl) ?_
      refine Kw.WL_v rfl rfl rfl (Kw.R_move rfl) ?_
      refine Kw.WL_v rfl rfl rfl (Kw.R_nei (z := false) rfl rfl (decide_eq_true (by omega))) ?_
      refine Kw.WL_v rfl rfl rfl (Kw.R_pickf rfl rfl) ?_
      refine Kw.WL_v rfl rfl rfl (Kw.R_move rfl) ?_
      refine Kw.WL_v rfl rfl rfl (Kw.R_move rfl) ?_
      refine Kw.WL_v rfl rfl rfl (Kw.R_fieldAddr (o' := 1) (k := 0) rfl Try.underlying42 rfl F.sz3 rfl) ?_
      refine Kw.WL_v rfl rfl rfl (Kw.R_load1 (v := .int .i64 n) rfl Try.underlying3 rfl A_gx rfl) ?_
      refine Kw.WL_callc rfl rfl rfl rfl F.cl8 rfl (create_nil  _  n) ?_; intro ww hww; rw [hww]; clear hww ww
      refine Kw.WL_v rfl rfl rfl (Kw.R_nei (z := false) rfl rfl (decide_eq_true (by omega))) ?_
      refine Kw.WL_v rfl rfl rfl (Kw.R_pickf rfl rfl) ?_
      refine Kw.WL_v rfl rfl rfl (Kw.R_move rfl) ?_
      refine Kw.WL_v rfl rfl rfl (Kw.R_move rfl) ?_
      refine Kw.WL_v rfl rfl rfl (Kw.R_fieldAddr (o' := 1) (k := 0) rfl Try.underlying42 rfl F.sz3 rfl) ?_
      refine Kw.WL_v rfl rfl rfl (Kw.R_load1 (v := .int .i64 n) rfl Try.underlying3 rfl A_gx rfl) ?_
      refine Kw.WL_v rfl rfl rfl (Kw.R_fieldAddr (o' := 4) (k := 0) rfl Try.underlying42 rfl F.sz9 rfl) ?_
      refine Kw.WL_v rfl rfl rfl (Kw.R_load1 (v := .string s) rfl Try.underlying9 rfl A_gx rfl) ?_
      refine Kw.WL_callc rfl rfl rfl rfl F.cl10 rfl (append_nil  _  n s) ?_; intro ww hww; rw [hww]; clear hww ww
      refine Kw.WL_v rfl rfl rfl (Kw.R_nei (z := false) rfl rfl (decide_eq_true (by omega))) ?_
      refine Kw.WL_v rfl rfl rfl (Kw.R_pickf rfl rfl) ?_
      refine Kw.WL_v rfl rfl rfl (Kw.R_move rfl) ?_
      refine Kw.WL_v rfl rfl rfl (Kw.R_move rfl) ?_
      refine Kw.WL_callc rfl rfl rfl rfl F.cl9 rfl (sync_nil  _  ) ?_; intro ww hww; rw [hww]; clear hww ww
      refine Kw.WL_v rfl rfl rfl (Kw.R_nei (z := false) rfl rfl (decide_eq_true (by omega))) ?_
      refine Kw.WL_v rfl rfl rfl (Kw.R_pickf rfl rfl) ?_
      refine Kw.WL_v rfl rfl rfl (Kw.R_move rfl) ?_
      refine Kw.WL_v rfl rfl rfl (Kw.R_move rfl) ?_
      refine Kw.WL_v rfl rfl rfl (Kw.R_fieldAddr (o' := 1) (k := 0) rfl Try.underlying42 rfl F.sz3 rfl) ?_
      refine Kw.WL_v rfl rfl rfl (Kw.R_load1 (v := .int .i64 n) rfl Try.underlying3 rfl A_gx rfl) ?_
      refine Kw.WL_v rfl rfl rfl (Kw.R_fieldAddr (o' := 3) (k := 0) rfl Try.underlying42 rfl F.sz3 rfl) ?_
      refine Kw.WL_v rfl rfl rfl (Kw.R_load1 (v := .int .i64 z) rfl Try.underlying3 rfl A_gx rfl) ?_
      refine Kw.WL_callc rfl rfl rfl rfl F.cl18 rfl (truncate_nil  _  n z) ?_; intro ww hww; rw [hww]; clear hww ww
      refine Kw.WL_v rfl rfl rfl (Kw.R_nei (z := false) rfl rfl (decide_eq_true (by omega))) ?_
      refine Kw.WL_v rfl rfl rfl (Kw.R_pickf rfl rfl) ?_
      refine Kw.WL_v rfl rfl rfl (Kw.R_move rfl) ?_
      refine Kw.WL_v rfl rfl rfl (Kw.R_move rfl) ?_
      refine Kw.WL_v rfl rfl rfl (Kw.R_fieldAddr (o' := 1) (k := 0) rfl Try.underlying42 rfl F.sz3 rfl) ?_
      refine Kw.WL_v rfl rfl rfl (Kw.R_load1 (v := .int .i64 n) rfl Try.underlying3 rfl A_gx rfl) ?_
      refine Kw.WL_callc rfl rfl rfl rfl F.cl17 rfl (delete_nil  _  n) ?_; intro ww hww; rw [hww]; clear hww ww
      refine Kw.WL_v rfl rfl rfl (Kw.R_nei (z := false) rfl rfl (decide_eq_true (by omega))) ?_
      refine Kw.WL_v rfl rfl rfl (Kw.R_pickf rfl rfl) ?_
      refine Kw.WL_nil ?_
      refine hK18 _ _ ?_; clear hK18 K18
      refine Kw.WC_sub (l' := [(1, .pointer (some ⟨gx, 0, none⟩)), (3, .pointer none), (4, .int .i64 (0 : Int)), (38, .int .i64 1), (39, .bool false), (42, .int .i64 0), (43, .bool false), (46, .int .i64 1), (47, .bool false), (50, .pointer none), (51, .pointer (some ⟨gx, 1, none⟩)), (52, .int .i64 n), (53, .int .i64 1), (54, .bool false), (57, .pointer none), (58, .pointer (some ⟨gx, 1, none⟩)), (59, .int .i64 n), (60, .pointer (some ⟨gx, 4, none⟩)), (61, .string s), (62, .int .i64 1), (63, .bool false), (66, .pointer none), (67, .int .i64 1), (68, .bool false), (71, .pointer none), (72, .pointer (some ⟨gx, 1, none⟩)), (73, .int .i64 n), (74, .pointer (some ⟨gx, 3, none⟩)), (75, .int .i64 z), (76, .int .i64 1), (77, .bool false), (80, .pointer none), (81, .pointer (some ⟨gx, 1, none⟩)), (82, .int .i64 n), (83, .int .i64 1), (84, .bool false), (85, .bool false)]) (Kw.Sub.cons rfl (Kw.Sub.cons rfl (Kw.Sub.cons rfl (Kw.Sub.cons rfl (Kw.Sub.cons rfl (Kw.Sub.cons rfl (Kw.Sub.cons rfl (Kw.Sub.cons rfl (Kw.Sub.cons rfl (Kw.Sub.cons rfl (Kw.Sub.cons rfl (Kw.Sub.cons rfl (Kw.Sub.cons rfl (Kw.Sub.cons rfl (Kw.Sub.cons rfl (Kw.Sub.cons rfl (Kw.Sub.cons rfl (Kw.Sub.cons rfl (Kw.Sub.cons rfl (Kw.Sub.cons rfl (Kw.Sub.cons rfl (Kw.Sub.cons rfl (Kw.Sub.cons rfl (Kw.Sub.cons rfl (Kw.Sub.cons rfl (Kw.Sub.cons rfl (Kw.Sub.cons rfl (Kw.Sub.cons rfl (Kw.Sub.cons rfl (Kw.Sub.cons rfl (Kw.Sub.cons rfl (Kw.Sub.cons rfl (Kw.Sub.cons rfl (Kw.Sub.cons rfl (Kw.Sub.cons rfl (Kw.Sub.cons rfl (Kw.Sub.cons rfl Kw.Sub.nil))))))))))))))))))))))))))))))))))))) ?_
      refine Kw.WC_false rfl ?_
      refine Kw.WC_skip ?_
      refine hK17 _ _ ?_; clear hK17 K17
      refine Kw.WC_seq (fun K19 hK19 => ?_)
      refine Kw.WC_seq (fun K20 hK20 => ?_)
      refine Kw.WC_region [some 86, some 87, some 88, some 89, some 90, some 91, some 92, some 93, some 94, some 95, some 96, some 97, some 98, some 99, some 100, some 101, some 102, some 103, some 104, some 105, some 106, some 107, some 108, some 109, some 110, some 111, some 112, some 113, some 114, some 115, some 116, some 117, some 118, some 119, some 120, some 121, some 122, some 123, some 124, some 125, some 126, some 127, some 128, some 129] rfl ?_
      refine Kw.WL_v rfl rfl rfl (Kw.R_move rfl) ?_
      refine Kw.WL_callc rfl rfl rfl rfl F.cl19 rfl (files_nil  _  ) ?_; intro ww hww; rw [hww]; clear hww ww
      refine Kw.WL_v rfl rfl rfl (Kw.R_lenl Try.underlying38 rfl) ?_
      refine Kw.WL_v rfl rfl rfl (Kw.R_nei (z := false) rfl rfl (decide_eq_true (by omega))) ?_
      refine Kw.WL_v rfl rfl rfl (Kw.R_move rfl) ?_
      refine Kw.WL_v rfl rfl rfl (Kw.R_move rfl) ?_
      refine Kw.WL_callc rfl rfl rfl rfl F.cl14 rfl (loose_nil  _  ) ?_; intro ww hww; rw [hww]; clear hww ww
      refine Kw.WL_v rfl rfl rfl (Kw.R_nei (z := false) rfl rfl (decide_eq_true (by omega))) ?_
      refine Kw.WL_v rfl rfl rfl (Kw.R_pickf rfl rfl) ?_
      refine Kw.WL_v rfl rfl rfl (Kw.R_move rfl) ?_
      refine Kw.WL_v rfl rfl rfl (Kw.R_move rfl) ?_
      refine Kw.WL_callc rfl rfl rfl rfl F.cl23 rfl (free_nil  _  ) ?_; intro ww hww; rw [hww]; clear hww ww
      refine Kw.WL_v rfl rfl rfl (Kw.R_nei (z := false) rfl rfl (decide_eq_true (by omega))) ?_
      refine Kw.WL_v rfl rfl rfl (Kw.R_pickf rfl rfl) ?_
      refine Kw.WL_v rfl rfl rfl (Kw.R_move rfl) ?_
      refine Kw.WL_v rfl rfl rfl (Kw.R_move rfl) ?_
      refine Kw.WL_callc rfl rfl rfl rfl F.cl12 rfl (up_nil  _  ) ?_; intro ww hww; rw [hww]; clear hww ww
      refine Kw.WL_v rfl rfl rfl (Kw.R_pickf rfl rfl) ?_
      refine Kw.WL_v rfl rfl rfl (Kw.R_move rfl) ?_
      refine Kw.WL_v rfl rfl rfl (Kw.R_move rfl) ?_
      refine Kw.WL_callc rfl rfl rfl rfl F.cl24 rfl (starts_nil  _  ) ?_; intro ww hww; rw [hww]; clear hww ww
      refine Kw.WL_v rfl rfl rfl (Kw.R_nei (z := false) rfl rfl (decide_eq_true (by omega))) ?_
      refine Kw.WL_v rfl rfl rfl (Kw.R_pickf rfl rfl) ?_
      refine Kw.WL_v rfl rfl rfl (Kw.R_move rfl) ?_
      refine Kw.WL_v rfl rfl rfl (Kw.R_move rfl) ?_
      refine Kw.WL_v rfl rfl rfl (Kw.R_fieldAddr (o' := 2) (k := 0) rfl Try.underlying42 rfl F.sz3 rfl) ?_
      refine Kw.WL_v rfl rfl rfl (Kw.R_load1 (v := .int .i64 a) rfl Try.underlying3 rfl A_gx rfl) ?_
      refine Kw.WL_callc rfl rfl rfl rfl F.cl11 rfl (crash_nil  _  a) ?_; intro ww hww; rw [hww]; clear hww ww
      refine Kw.WL_v rfl rfl rfl (Kw.R_nei (z := false) rfl rfl (decide_eq_true (by omega))) ?_
      refine Kw.WL_v rfl rfl rfl (Kw.R_pickf rfl rfl) ?_
      refine Kw.WL_v rfl rfl rfl (Kw.R_move rfl) ?_
      refine Kw.WL_v rfl rfl rfl (Kw.R_move rfl) ?_
      refine Kw.WL_callc rfl rfl rfl rfl F.cl13 rfl (start_nil  _  ) ?_; intro ww hww; rw [hww]; clear hww ww
      refine Kw.WL_v rfl rfl rfl (Kw.R_nei (z := false) rfl rfl (decide_eq_true (by omega))) ?_
      refine Kw.WL_v rfl rfl rfl (Kw.R_pickf rfl rfl) ?_
      refine Kw.WL_v rfl rfl rfl (Kw.R_move rfl) ?_
      refine Kw.WL_v rfl rfl rfl (Kw.R_move rfl) ?_
      refine Kw.WL_v rfl rfl rfl (Kw.R_fieldAddr (o' := 2) (k := 0) rfl Try.underlying42 rfl F.sz3 rfl) ?_
      refine Kw.WL_v rfl rfl rfl (Kw.R_load1 (v := .int .i64 a) rfl Try.underlying3 rfl A_gx rfl) ?_
      refine Kw.WL_v rfl rfl rfl (Kw.R_fieldAddr (o' := 3) (k := 0) rfl Try.underlying42 rfl F.sz3 rfl) ?_
      refine Kw.WL_v rfl rfl rfl (Kw.R_load1 (v := .int .i64 z) rfl Try.underlying3 rfl A_gx rfl) ?_
      refine Kw.WL_callc rfl rfl rfl rfl F.cl16 rfl (fail_nil  _  a z) ?_; intro ww hww; rw [hww]; clear hww ww
      refine Kw.WL_v rfl rfl rfl (Kw.R_nei (z := false) rfl rfl (decide_eq_true (by omega))) ?_
      refine Kw.WL_v rfl rfl rfl (Kw.R_pickf rfl rfl) ?_
      refine Kw.WL_nil ?_
      refine hK20 _ _ ?_; clear hK20 K20
      refine Kw.WC_sub (l' := [(1, .pointer (some ⟨gx, 0, none⟩)), (4, .int .i64 (0 : Int)), (38, .int .i64 1), (39, .bool false), (42, .int .i64 0), (43, .bool false), (46, .int .i64 1), (47, .bool false), (50, .pointer none), (51, .pointer (some ⟨gx, 1, none⟩)), (52, .int .i64 n), (53, .int .i64 1), (54, .bool false), (57, .pointer none), (58, .pointer (some ⟨gx, 1, none⟩)), (59, .int .i64 n), (60, .pointer (some ⟨gx, 4, none⟩)), (61, .string s), (62, .int .i64 1), (63, .bool false), (66, .pointer none), (67, .int .i64 1), (68, .bool false), (71, .pointer none), (72, .pointer (some ⟨gx, 1, none⟩)), (73, .int .i64 n), (74, .pointer (some ⟨gx, 3, none⟩)), (75, .int .i64 z), (76, .int .i64 1), (77, .bool false), (80, .pointer none), (81, .pointer (some ⟨gx, 1, none⟩)), (82, .int .i64 n), (83, .int .i64 1), (84, .bool false), (91, .pointer none), (92, .int .i64 0), (93, .bool false), (96, .pointer none), (97, .int .i64 0), (98, .bool false), (101, .pointer none), (102, .bool false), (105, .pointer none), (106, .int .i64 0), (107, .bool false), (110, .pointer none), (111, .pointer (some ⟨gx, 2, none⟩)), (112, .int .i64 a), (113, .int .i64 1), (114, .bool false), (117, .pointer none), (118, .int .i64 1), (119, .bool false), (122, .pointer none), (123, .pointer (some ⟨gx, 2, none⟩)), (124, .int .i64 a), (125, .pointer (some ⟨gx, 3, none⟩)), (126, .int .i64 z), (127, .int .i64 1), (128, .bool false), (129, .bool false)]) (Kw.Sub.cons rfl (Kw.Sub.cons rfl (Kw.Sub.cons rfl (Kw.Sub.cons rfl (Kw.Sub.cons rfl (Kw.Sub.cons rfl (Kw.Sub.cons rfl (Kw.Sub.cons rfl (Kw.Sub.cons rfl (Kw.Sub.cons rfl (Kw.Sub.cons rfl (Kw.Sub.cons rfl (Kw.Sub.cons rfl (Kw.Sub.cons rfl (Kw.Sub.cons rfl (Kw.Sub.cons rfl (Kw.Sub.cons rfl (Kw.Sub.cons rfl (Kw.Sub.cons rfl (Kw.Sub.cons rfl (Kw.Sub.cons rfl (Kw.Sub.cons rfl (Kw.Sub.cons rfl (Kw.Sub.cons rfl (Kw.Sub.cons rfl (Kw.Sub.cons rfl (Kw.Sub.cons rfl (Kw.Sub.cons rfl (Kw.Sub.cons rfl (Kw.Sub.cons rfl (Kw.Sub.cons rfl (Kw.Sub.cons rfl (Kw.Sub.cons rfl (Kw.Sub.cons rfl (Kw.Sub.cons rfl (Kw.Sub.cons rfl (Kw.Sub.cons rfl (Kw.Sub.cons rfl (Kw.Sub.cons rfl (Kw.Sub.cons rfl (Kw.Sub.cons rfl (Kw.Sub.cons rfl (Kw.Sub.cons rfl (Kw.Sub.cons rfl (Kw.Sub.cons rfl (Kw.Sub.cons rfl (Kw.Sub.cons rfl (Kw.Sub.cons rfl (Kw.Sub.cons rfl (Kw.Sub.cons rfl (Kw.Sub.cons rfl (Kw.Sub.cons rfl (Kw.Sub.cons rfl (Kw.Sub.cons rfl (Kw.Sub.cons rfl (Kw.Sub.cons rfl (Kw.Sub.cons rfl (Kw.Sub.cons rfl (Kw.Sub.cons rfl (Kw.Sub.cons rfl (Kw.Sub.cons rfl (Kw.Sub.cons rfl Kw.Sub.nil)))))))))))))))))))))))))))))))))))))))))))))))))))))))))))))) ?_
      refine Kw.WC_false rfl ?_
      refine Kw.WC_skip ?_
      refine hK19 _ _ ?_; clear hK19 K19
      refine Kw.WC_region [some 130, some 131, some 3] rfl ?_
      refine Kw.WL_v rfl rfl rfl (F.R_bz52) ?_
      refine Kw.WL_box rfl rfl rfl ?_; intro t2 w21 N_t2
      have L_gx_t2 := N_t2.ne A_gx; replace A_gx := N_t2.keep A_gx
      have A_t2 : Kw.At w21 t2 F.Z52 52 := N_t2.at_
      have G_t2 := N_t2.ge HB (Nat.le_refl _); replace HB := N_t2.below HB (Nat.le_refl _); clear N_t2
      refine Kw.WL_v rfl rfl rfl (Kw.R_assign rfl) ?_
      refine Kw.WL_nil ?_
      refine Kw.QN_block ?_
      refine hK14 _ _ ?_; clear hK14 K14
      refine Kw.WC_region [some 15, some 16, some 4] rfl ?_
      refine Kw.WL_v rfl rfl rfl (Kw.R_move rfl) ?_
      refine Kw.WL_v rfl rfl rfl (Kw.R_add (c := ((0 + 1 : Nat) : Int)) rfl rfl (by rw [Kw.wrap_i64 (by omega)]; omega)) ?_
      refine Kw.WL_v rfl rfl rfl (Kw.R_assign rfl) ?_
      refine Kw.WL_nil ?_
      refine Kw.QN_round ((0 + 1, .pointer (some ⟨t2, 0, none⟩))) ⟨.inr ⟨by omega, t2, rfl, A_t2, G_t2⟩, A_gx, HB⟩ (by dsimp only; omega) (Kw.Sub.cons rfl (Kw.Sub.cons rfl (Kw.Sub.cons rfl Kw.Sub.nil)))
    ·
      refine Kw.WL_v rfl rfl rfl (Kw.R_move rfl) ?_
      by_cases c22 : (i : Int) < (2 : Int)
      ·
        refine Kw.WL_v rfl rfl rfl (Kw.R_lss (z := true) rfl rfl (decide_eq_true c22)) ?_
        refine Kw.WL_nil ?_
        refine hK13 _ _ ?_; clear hK13 K13
        refine Kw.WC_true rfl ?_
        refine Kw.WC_skip ?_
        refine hK12 _ _ ?_; clear hK12 K12
        refine Kw.WC_seq (fun K23 hK23 => ?_)
        refine Kw.WC_block ?_
        refine Kw.WC_seq (fun K24 hK24 => ?_)
        refine Kw.WC_region [some 18, some 19, some 20, some 21, some 22, some 23, some 24, some 25, some 17, some 26, some 27, some 5, some 6] rfl ?_
        refine Kw.WL_v rfl rfl rfl (Kw.R_move rfl) ?_
        refine Kw.WL_v rfl rfl rfl (Kw.R_fieldAddr (o' := 1) (k := 0) rfl Try.underlying42 rfl F.sz3 rfl) ?_
        refine Kw.WL_v rfl rfl rfl (Kw.R_load1 (v := .int .i64 n) rfl Try.underlying3 rfl A_gx rfl) ?_
        refine Kw.WL_v rfl rfl rfl (Kw.R_fieldAddr (o' := 2) (k := 0) rfl Try.underlying42 rfl F.sz3 rfl) ?_
        refine Kw.WL_v rfl rfl rfl (Kw.R_load1 (v := .int .i64 a) rfl Try.underlying3 rfl A_gx rfl) ?_
        refine Kw.WL_v rfl rfl rfl (Kw.R_fieldAddr (o' := 3) (k := 0) rfl Try.underlying42 rfl F.sz3 rfl) ?_
        refine Kw.WL_v rfl rfl rfl (Kw.R_load1 (v := .int .i64 z) rfl Try.underlying3 rfl A_gx rfl) ?_
        refine Kw.WL_callc rfl rfl rfl rfl F.cl21 rfl (read_zero tb _ A_tb n a z) ?_; intro ww hww; rw [hww]; clear hww ww
        refine Kw.WL_v rfl rfl rfl (Kw.R_move rfl) ?_
        refine Kw.WL_v rfl rfl rfl (Kw.R_extract (v := .string ⟨#[]⟩) rfl rfl) ?_
        refine Kw.WL_v rfl rfl rfl (Kw.R_extract (v := .int .i64 1) rfl rfl) ?_
        refine Kw.WL_v rfl rfl rfl (Kw.R_assign rfl) ?_
        refine Kw.WL_v rfl rfl rfl (Kw.R_assign rfl) ?_
        refine Kw.WL_nil ?_
        refine hK24 _ _ ?_; clear hK24 K24
        refine Kw.WC_sub (l' := [(1, .pointer (some ⟨gx, 0, none⟩)), (3, .pointer (some ⟨tb, 0, none⟩)), (4, .int .i64 (i : Int)), (5, .string ⟨#[]⟩), (6, .int .i64 1)]) (Kw.Sub.cons rfl (Kw.Sub.cons rfl (Kw.Sub.cons rfl (Kw.Sub.cons rfl (Kw.Sub.cons rfl Kw.Sub.nil))))) ?_
        refine Kw.WC_seq (fun K25 hK25 => ?_)
        refine Kw.WC_region [some 29, some 30, some 31, some 32, some 28, some 33, some 34, some 7, some 8] rfl ?_
        refine Kw.WL_v rfl rfl rfl (Kw.R_move rfl) ?_
        refine Kw.WL_v rfl rfl rfl (Kw.R_fieldAddr (o' := 1) (k := 0) rfl Try.underlying42 rfl F.sz3 rfl) ?_
        refine Kw.WL_v rfl rfl rfl (Kw.R_load1 (v := .int .i64 n) rfl Try.underlying3 rfl A_gx rfl) ?_
        refine Kw.WL_callc rfl rfl rfl rfl F.cl22 rfl (size_zero tb _ A_tb n) ?_; intro ww hww; rw [hww]; clear hww ww
        refine Kw.WL_v rfl rfl rfl (Kw.R_move rfl) ?_
        refine Kw.WL_v rfl rfl rfl (Kw.R_extract (v := .int .i64 0) rfl rfl) ?_
        refine Kw.WL_v rfl rfl rfl (Kw.R_extract (v := .int .i64 1) rfl rfl) ?_
        refine Kw.WL_v rfl rfl rfl (Kw.R_assign rfl) ?_
        refine Kw.WL_v rfl rfl rfl (Kw.R_assign rfl) ?_
        refine Kw.WL_nil ?_
        refine hK25 _ _ ?_; clear hK25 K25
        refine Kw.WC_sub (l' := [(1, .pointer (some ⟨gx, 0, none⟩)), (3, .pointer (some ⟨tb, 0, none⟩)), (4, .int .i64 (i : Int)), (5, .string ⟨#[]⟩), (6, .int .i64 1), (7, .int .i64 0), (8, .int .i64 1)]) (Kw.Sub.cons rfl (Kw.Sub.cons rfl (Kw.Sub.cons rfl (Kw.Sub.cons rfl (Kw.Sub.cons rfl (Kw.Sub.cons rfl (Kw.Sub.cons rfl Kw.Sub.nil))))))) ?_
        refine Kw.WC_seq (fun K26 hK26 => ?_)
        refine Kw.WC_seq (fun K27 hK27 => ?_)
        refine Kw.WC_region [some 35, some 36, some 37, some 38, some 39, some 40, some 41, some 42, some 43, some 44, some 45, some 46, some 47, some 48, some 49, some 50, some 51, some 52, some 53, some 54, some 55, some 56, some 57, some 58, some 59, some 60, some 61, some 62, some 63, some 64, some 65, some 66, some 67, some 68, some 69, some 70, some 71, some 72, some 73, some 74, some 75, some 76, some 77, some 78, some 79, some 80, some 81, some 82, some 83, some 84, some 85] rfl ?_
        refine Kw.WL_v rfl rfl rfl (Kw.R_move rfl) ?_
        refine Kw.WL_v rfl rfl rfl (Kw.R_nes (z := false) rfl rfl (decide_eq_true rfl)) ?_
        refine Kw.WL_v rfl rfl rfl (Kw.R_move rfl) ?_
        refine Kw.WL_v rfl rfl rfl (Kw.R_move rfl) ?_
        refine Kw.WL_v rfl rfl rfl (Kw.R_nei (z := false) rfl rfl (decide_eq_true (by omega))) ?_
        refine Kw.WL_v rfl rfl rfl (Kw.R_pickf rfl rfl) ?_
        refine Kw.WL_v rfl rfl rfl (Kw.R_move rfl) ?_
        refine Kw.WL_v rfl rfl rfl (Kw.R_move rfl) ?_
        refine Kw.WL_v rfl rfl rfl (Kw.R_nei (z := false) rfl rfl (decide_eq_true (by omega))) ?_
        refine Kw.WL_v rfl rfl rfl (Kw.R_pickf rfl rfl) ?_
        refine Kw.WL_v rfl rfl rfl (Kw.R_move rfl) ?_
        refine Kw.WL_v rfl rfl rfl (Kw.R_move rfl) ?_
        refine Kw.WL_v rfl rfl rfl (Kw.R_nei (z := false) rfl rfl (decide_eq_true (by omega))) ?_
        refine Kw.WL_v rfl rfl rfl (Kw.R_pickf rfl rfl) ?_
        refine Kw.WL_v rfl rfl rfl (Kw.R_move rfl) ?_
        refine Kw.WL_v rfl rfl rfl (Kw.R_move rfl) ?_
        refine Kw.WL_v rfl rfl rfl (Kw.R_fieldAddr (o' := 1) (k := 0) rfl Try.underlying42 rfl F.sz3 rfl) ?_
        refine Kw.WL_v rfl rfl rfl (Kw.R_load1 (v := .int .i64 n) rfl Try.underlying3 rfl A_gx rfl) ?_
        refine Kw.WL_callc rfl rfl rfl rfl F.cl8 rfl (create_zero tb _ A_tb n) ?_; intro ww hww; rw [hww]; clear hww ww
        refine Kw.WL_v rfl rfl rfl (Kw.R_nei (z := false) rfl rfl (decide_eq_true (by omega))) ?_
        refine Kw.WL_v rfl rfl rfl (Kw.R_pickf rfl rfl) ?_
        refine Kw.WL_v rfl rfl rfl (Kw.R_move rfl) ?_
        refine Kw.WL_v rfl rfl rfl (Kw.R_move rfl) ?_
        refine Kw.WL_v rfl rfl rfl (Kw.R_fieldAddr (o' := 1) (k := 0) rfl Try.underlying42 rfl F.sz3 rfl) ?_
        refine Kw.WL_v rfl rfl rfl (Kw.R_load1 (v := .int .i64 n) rfl Try.underlying3 rfl A_gx rfl) ?_
        refine Kw.WL_v rfl rfl rfl (Kw.R_fieldAddr (o' := 4) (k := 0) rfl Try.underlying42 rfl F.sz9 rfl) ?_
        refine Kw.WL_v rfl rfl rfl (Kw.R_load1 (v := .string s) rfl Try.underlying9 rfl A_gx rfl) ?_
        refine Kw.WL_callc rfl rfl rfl rfl F.cl10 rfl (append_zero tb _ A_tb n s) ?_; intro ww hww; rw [hww]; clear hww ww
        refine Kw.WL_v rfl rfl rfl (Kw.R_nei (z := false) rfl rfl (decide_eq_true (by omega))) ?_
        refine Kw.WL_v rfl rfl rfl (Kw.R_pickf rfl rfl) ?_
        refine Kw.WL_v rfl rfl rfl (Kw.R_move rfl) ?_
        refine Kw.WL_v rfl rfl rfl (Kw.R_move rfl) ?_
        refine Kw.WL_callc rfl rfl rfl rfl F.cl9 rfl (sync_zero tb _ A_tb ) ?_; intro ww hww; rw [hww]; clear hww ww
        refine Kw.WL_v rfl rfl rfl (Kw.R_nei (z := false) rfl rfl (decide_eq_true (by omega))) ?_
        refine Kw.WL_v rfl rfl rfl (Kw.R_pickf rfl rfl) ?_
        refine Kw.WL_v rfl rfl rfl (Kw.R_move rfl) ?_
        refine Kw.WL_v rfl rfl rfl (Kw.R_move rfl) ?_
        refine Kw.WL_v rfl rfl rfl (Kw.R_fieldAddr (o' := 1) (k := 0) rfl Try.underlying42 rfl F.sz3 rfl) ?_
        refine Kw.WL_v rfl rfl rfl (Kw.R_load1 (v := .int .i64 n) rfl Try.underlying3 rfl A_gx rfl) ?_
        refine Kw.WL_v rfl rfl rfl (Kw.R_fieldAddr (o' := 3) (k := 0) rfl Try.underlying42 rfl F.sz3 rfl) ?_
        refine Kw.WL_v rfl rfl rfl (Kw.R_load1 (v := .int .i64 z) rfl Try.underlying3 rfl A_gx rfl) ?_
        refine Kw.WL_callc rfl rfl rfl rfl F.cl18 rfl (truncate_zero tb _ A_tb n z) ?_; intro ww hww; rw [hww]; clear hww ww
        refine Kw.WL_v rfl rfl rfl (Kw.R_nei (z := false) rfl rfl (decide_eq_true (by omega))) ?_
        refine Kw.WL_v rfl rfl rfl (Kw.R_pickf rfl rfl) ?_
        refine Kw.WL_v rfl rfl rfl (Kw.R_move rfl) ?_
        refine Kw.WL_v rfl rfl rfl (Kw.R_move rfl) ?_
        refine Kw.WL_v rfl rfl rfl (Kw.R_fieldAddr (o' := 1) (k := 0) rfl Try.underlying42 rfl F.sz3 rfl) ?_
        refine Kw.WL_v rfl rfl rfl (Kw.R_load1 (v := .int .i64 n) rfl Try.underlying3 rfl A_gx rfl) ?_
        refine Kw.WL_callc rfl rfl rfl rfl F.cl17 rfl (delete_zero tb _ A_tb n) ?_; intro ww hww; rw [hww]; clear hww ww
        refine Kw.WL_v rfl rfl rfl (Kw.R_nei (z := false) rfl rfl (decide_eq_true (by omega))) ?_
        refine Kw.WL_v rfl rfl rfl (Kw.R_pickf rfl rfl) ?_
        refine Kw.WL_nil ?_
        refine hK27 _ _ ?_; clear hK27 K27
        refine Kw.WC_sub (l' := [(1, .pointer (some ⟨gx, 0, none⟩)), (3, .pointer (some ⟨tb, 0, none⟩)), (4, .int .i64 (i : Int)), (38, .int .i64 1), (39, .bool false), (42, .int .i64 0), (43, .bool false), (46, .int .i64 1), (47, .bool false), (50, .pointer (some ⟨tb, 0, none⟩)), (51, .pointer (some ⟨gx, 1, none⟩)), (52, .int .i64 n), (53, .int .i64 1), (54, .bool false), (57, .pointer (some ⟨tb, 0, none⟩)), (58, .pointer (some ⟨gx, 1, none⟩)), (59, .int .i64 n), (60, .pointer (some ⟨gx, 4, none⟩)), (61, .string s), (62, .int .i64 1), (63, .bool false), (66, .pointer (some ⟨tb, 0, none⟩)), (67, .int .i64 1), (68, .bool false), (71, .pointer (some ⟨tb, 0, none⟩)), (72, .pointer (some ⟨gx, 1, none⟩)), (73, .int .i64 n), (74, .pointer (some ⟨gx, 3, none⟩)), (75, .int .i64 z), (76, .int .i64 1), (77, .bool false), (80, .pointer (some ⟨tb, 0, none⟩)), (81, .pointer (some ⟨gx, 1, none⟩)), (82, .int .i64 n), (83, .int .i64 1), (84, .bool false), (85, .bool false)]) (Kw.Sub.cons rfl (Kw.Sub.cons rfl (Kw.Sub.cons rfl (Kw.Sub.cons rfl (Kw.Sub.cons rfl (Kw.Sub.cons rfl (Kw.Sub.cons rfl (Kw.Sub.cons rfl (Kw.Sub.cons rfl (Kw.Sub.cons rfl (Kw.Sub.cons rfl (Kw.Sub.cons rfl (Kw.Sub.cons rfl (Kw.Sub.cons rfl (Kw.Sub.cons rfl (Kw.Sub.cons rfl (Kw.Sub.cons rfl (Kw.Sub.cons rfl (Kw.Sub.cons rfl (Kw.Sub.cons rfl (Kw.Sub.cons rfl (Kw.Sub.cons rfl (Kw.Sub.cons rfl (Kw.Sub.cons rfl (Kw.Sub.cons rfl (Kw.Sub.cons rfl (Kw.Sub.cons rfl (Kw.Sub.cons rfl (Kw.Sub.cons rfl (Kw.Sub.cons rfl (Kw.Sub.cons rfl (Kw.Sub.cons rfl (Kw.Sub.cons rfl (Kw.Sub.cons rfl (Kw.Sub.cons rfl (Kw.Sub.cons rfl (Kw.Sub.cons rfl Kw.Sub.nil))))))))))))))))))))))))))))))))))))) ?_
        refine Kw.WC_false rfl ?_
        refine Kw.WC_skip ?_
        refine hK26 _ _ ?_; clear hK26 K26
        refine Kw.WC_seq (fun K28 hK28 => ?_)
        refine Kw.WC_seq (fun K29 hK29 => ?_)
        refine Kw.WC_region [some 86, some 87, some 88, some 89, some 90, some 91, some 92, some 93, some 94, some 95, some 96, some 97, some 98, some 99, some 100, some 101, some 102, some 103, some 104, some 105, some 106, some 107, some 108, some 109, some 110, some 111, some 112, some 113, some 114, some 115, some 116, some 117, some 118, some 119, some 120, some 121, some 122, some 123, some 124, some 125, some 126, some 127, some 128, some 129] rfl ?_
        refine Kw.WL_v rfl rfl rfl (Kw.R_move rfl) ?_
        refine Kw.WL_callc rfl rfl rfl rfl F.cl19 rfl (files_zero tb _ A_tb ) ?_; intro ww hww; rw [hww]; clear hww ww
        refine Kw.WL_v rfl rfl rfl (Kw.R_lenl Try.underlying38 rfl) ?_
        refine Kw.WL_v rfl rfl rfl (Kw.R_nei (z := false) rfl rfl (decide_eq_true (by omega))) ?_
        refine Kw.WL_v rfl rfl rfl (Kw.R_move rfl) ?_
        refine Kw.WL_v rfl rfl rfl (Kw.R_move rfl) ?_
        refine Kw.WL_callc rfl rfl rfl rfl F.cl14 rfl (loose_zero tb _ A_tb ) ?_; intro ww hww; rw [hww]; clear hww ww
        refine Kw.WL_v rfl rfl rfl (Kw.R_nei (z := false) rfl rfl (decide_eq_true (by omega))) ?_
        refine Kw.WL_v rfl rfl rfl (Kw.R_pickf rfl rfl) ?_
        refine Kw.WL_v rfl rfl rfl (Kw.R_move rfl) ?_
        refine Kw.WL_v rfl rfl rfl (Kw.R_move rfl) ?_
        refine Kw.WL_callc rfl rfl rfl rfl F.cl23 rfl (free_zero tb _ A_tb ) ?_; intro ww hww; rw [hww]; clear hww ww
        refine Kw.WL_v rfl rfl rfl (Kw.R_nei (z := false) rfl rfl (decide_eq_true (by omega))) ?_
        refine Kw.WL_v rfl rfl rfl (Kw.R_pickf rfl rfl) ?_
        refine Kw.WL_v rfl rfl rfl (Kw.R_move rfl) ?_
        refine Kw.WL_v rfl rfl rfl (Kw.R_move rfl) ?_
        refine Kw.WL_callc rfl rfl rfl rfl F.cl12 rfl (up_zero tb _ A_tb ) ?_; intro ww hww; rw [hww]; clear hww ww
        refine Kw.WL_v rfl rfl rfl (Kw.R_pickf rfl rfl) ?_
        refine Kw.WL_v rfl rfl rfl (Kw.R_move rfl) ?_
        refine Kw.WL_v rfl rfl rfl (Kw.R_move rfl) ?_
        refine Kw.WL_callc rfl rfl rfl rfl F.cl24 rfl (starts_zero tb _ A_tb ) ?_; intro ww hww; rw [hww]; clear hww ww
        refine Kw.WL_v rfl rfl rfl (Kw.R_nei (z := false) rfl rfl (decide_eq_true (by omega))) ?_
        refine Kw.WL_v rfl rfl rfl (Kw.R_pickf rfl rfl) ?_
        refine Kw.WL_v rfl rfl rfl (Kw.R_move rfl) ?_
        refine Kw.WL_v rfl rfl rfl (Kw.R_move rfl) ?_
        refine Kw.WL_v rfl rfl rfl (Kw.R_fieldAddr (o' := 2) (k := 0) rfl Try.underlying42 rfl F.sz3 rfl) ?_
        refine Kw.WL_v rfl rfl rfl (Kw.R_load1 (v := .int .i64 a) rfl Try.underlying3 rfl A_gx rfl) ?_
        refine Kw.WL_callc rfl rfl rfl rfl F.cl11 rfl (crash_zero tb _ A_tb a) ?_; intro ww hww; rw [hww]; clear hww ww
        refine Kw.WL_v rfl rfl rfl (Kw.R_nei (z := false) rfl rfl (decide_eq_true (by omega))) ?_
        refine Kw.WL_v rfl rfl rfl (Kw.R_pickf rfl rfl) ?_
        refine Kw.WL_v rfl rfl rfl (Kw.R_move rfl) ?_
        refine Kw.WL_v rfl rfl rfl (Kw.R_move rfl) ?_
        refine Kw.WL_callc rfl rfl rfl rfl F.cl13 rfl (start_zero tb _ A_tb ) ?_; intro ww hww; rw [hww]; clear hww ww
        refine Kw.WL_v rfl rfl rfl (Kw.R_nei (z := false) rfl rfl (decide_eq_true (by omega))) ?_
        refine Kw.WL_v rfl rfl rfl (Kw.R_pickf rfl rfl) ?_
        refine Kw.WL_v rfl rfl rfl (Kw.R_move rfl) ?_
        refine Kw.WL_v rfl rfl rfl (Kw.R_move rfl) ?_
        refine Kw.WL_v rfl rfl rfl (Kw.R_fieldAddr (o' := 2) (k := 0) rfl Try.underlying42 rfl F.sz3 rfl) ?_
        refine Kw.WL_v rfl rfl rfl (Kw.R_load1 (v := .int .i64 a) rfl Try.underlying3 rfl A_gx rfl) ?_
        refine Kw.WL_v rfl rfl rfl (Kw.R_fieldAddr (o' := 3) (k := 0) rfl Try.underlying42 rfl F.sz3 rfl) ?_
        refine Kw.WL_v rfl rfl rfl (Kw.R_load1 (v := .int .i64 z) rfl Try.underlying3 rfl A_gx rfl) ?_
        refine Kw.WL_callc rfl rfl rfl rfl F.cl16 rfl (fail_zero tb _ A_tb a z) ?_; intro ww hww; rw [hww]; clear hww ww
        refine Kw.WL_v rfl rfl rfl (Kw.R_nei (z := false) rfl rfl (decide_eq_true (by omega))) ?_
        refine Kw.WL_v rfl rfl rfl (Kw.R_pickf rfl rfl) ?_
        refine Kw.WL_nil ?_
        refine hK29 _ _ ?_; clear hK29 K29
        refine Kw.WC_sub (l' := [(1, .pointer (some ⟨gx, 0, none⟩)), (4, .int .i64 (i : Int)), (38, .int .i64 1), (39, .bool false), (42, .int .i64 0), (43, .bool false), (46, .int .i64 1), (47, .bool false), (50, .pointer (some ⟨tb, 0, none⟩)), (51, .pointer (some ⟨gx, 1, none⟩)), (52, .int .i64 n), (53, .int .i64 1), (54, .bool false), (57, .pointer (some ⟨tb, 0, none⟩)), (58, .pointer (some ⟨gx, 1, none⟩)), (59, .int .i64 n), (60, .pointer (some ⟨gx, 4, none⟩)), (61, .string s), (62, .int .i64 1), (63, .bool false), (66, .pointer (some ⟨tb, 0, none⟩)), (67, .int .i64 1), (68, .bool false), (71, .pointer (some ⟨tb, 0, none⟩)), (72, .pointer (some ⟨gx, 1, none⟩)), (73, .int .i64 n), (74, .pointer (some ⟨gx, 3, none⟩)), (75, .int .i64 z), (76, .int .i64 1), (77, .bool false), (80, .pointer (some ⟨tb, 0, none⟩)), (81, .pointer (some ⟨gx, 1, none⟩)), (82, .int .i64 n), (83, .int .i64 1), (84, .bool false), (91, .pointer (some ⟨tb, 0, none⟩)), (92, .int .i64 0), (93, .bool false), (96, .pointer (some ⟨tb, 0, none⟩)), (97, .int .i64 0), (98, .bool false), (101, .pointer (some ⟨tb, 0, none⟩)), (102, .bool false), (105, .pointer (some ⟨tb, 0, none⟩)), (106, .int .i64 0), (107, .bool false), (110, .pointer (some ⟨tb, 0, none⟩)), (111, .pointer (some ⟨gx, 2, none⟩)), (112, .int .i64 a), (113, .int .i64 1), (114, .bool false), (117, .pointer (some ⟨tb, 0, none⟩)), (118, .int .i64 1), (119, .bool false), (122, .pointer (some ⟨tb, 0, none⟩)), (123, .pointer (some ⟨gx, 2, none⟩)), (124, .int .i64 a), (125, .pointer (some ⟨gx, 3, none⟩)), (126, .int .i64 z), (127, .int .i64 1), (128, .bool false), (129, .bool false)]) (Kw.Sub.cons rfl (Kw.Sub.cons rfl (Kw.Sub.cons rfl (Kw.Sub.cons rfl (Kw.Sub.cons rfl (Kw.Sub.cons rfl (Kw.Sub.cons rfl (Kw.Sub.cons rfl (Kw.Sub.cons rfl (Kw.Sub.cons rfl (Kw.Sub.cons rfl (Kw.Sub.cons rfl (Kw.Sub.cons rfl (Kw.Sub.cons rfl (Kw.Sub.cons rfl (Kw.Sub.cons rfl (Kw.Sub.cons rfl (Kw.Sub.cons rfl (Kw.Sub.cons rfl (Kw.Sub.cons rfl (Kw.Sub.cons rfl (Kw.Sub.cons rfl (Kw.Sub.cons rfl (Kw.Sub.cons rfl (Kw.Sub.cons rfl (Kw.Sub.cons rfl (Kw.Sub.cons rfl (Kw.Sub.cons rfl (Kw.Sub.cons rfl (Kw.Sub.cons rfl (Kw.Sub.cons rfl (Kw.Sub.cons rfl (Kw.Sub.cons rfl (Kw.Sub.cons rfl (Kw.Sub.cons rfl (Kw.Sub.cons rfl (Kw.Sub.cons rfl (Kw.Sub.cons rfl (Kw.Sub.cons rfl (Kw.Sub.cons rfl (Kw.Sub.cons rfl (Kw.Sub.cons rfl (Kw.Sub.cons rfl (Kw.Sub.cons rfl (Kw.Sub.cons rfl (Kw.Sub.cons rfl (Kw.Sub.cons rfl (Kw.Sub.cons rfl (Kw.Sub.cons rfl (Kw.Sub.cons rfl (Kw.Sub.cons rfl (Kw.Sub.cons rfl (Kw.Sub.cons rfl (Kw.Sub.cons rfl (Kw.Sub.cons rfl (Kw.Sub.cons rfl (Kw.Sub.cons rfl (Kw.Sub.cons rfl (Kw.Sub.cons rfl (Kw.Sub.cons rfl (Kw.Sub.cons rfl (Kw.Sub.cons rfl Kw.Sub.nil)))))))))))))))))))))))))))))))))))))))))))))))))))))))))))))) ?_
        refine Kw.WC_false rfl ?_
        refine Kw.WC_skip ?_
        refine hK28 _ _ ?_; clear hK28 K28
        refine Kw.WC_region [some 130, some 131, some 3] rfl ?_
        refine Kw.WL_v rfl rfl rfl (F.R_bz52) ?_
        refine Kw.WL_box rfl rfl rfl ?_; intro t2 w30 N_t2
        have L_gx_t2 := N_t2.ne A_gx; replace A_gx := N_t2.keep A_gx
        have L_tb_t2 := N_t2.ne A_tb; replace A_tb := N_t2.keep A_tb
        have A_t2 : Kw.At w30 t2 F.Z52 52 := N_t2.at_
        have G_t2 := N_t2.ge HB (Nat.le_refl _); replace HB := N_t2.below HB (Nat.le_refl _); clear N_t2
        refine Kw.WL_v rfl rfl rfl (Kw.R_assign rfl) ?_
        refine Kw.WL_nil ?_
        refine Kw.QN_block ?_
        refine hK23 _ _ ?_; clear hK23 K23
        refine Kw.WC_region [some 15, some 16, some 4] rfl ?_
        refine Kw.WL_v rfl rfl rfl (Kw.R_move rfl) ?_
        refine Kw.WL_v rfl rfl rfl (Kw.R_add (c := ((i + 1 : Nat) : Int)) rfl rfl (by rw [Kw.wrap_i64 (by omega)]; omega)) ?_
        refine Kw.WL_v rfl rfl rfl (Kw.R_assign rfl) ?_
        refine Kw.WL_nil ?_
        refine Kw.QN_round ((i + 1, .pointer (some ⟨t2, 0, none⟩))) ⟨.inr ⟨by omega, t2, rfl, A_t2, G_t2⟩, A_gx, HB⟩ (by dsimp only; omega) (Kw.Sub.cons rfl (Kw.Sub.cons rfl (Kw.Sub.cons rfl Kw.Sub.nil)))
      ·
        refine Kw.WL_v rfl rfl rfl (Kw.R_lss (z := false) rfl rfl (decide_eq_false c22)) ?_
        refine Kw.WL_nil ?_
        refine hK13 _ _ ?_; clear hK13 K13
        refine Kw.WC_false rfl ?_
        refine Kw.WC_exit ?_
        refine Kw.QE_then ?_; clear hK12 K12
        refine Kw.QE_then ?_
        refine Kw.QE_here ?_
        refine hK9 _ _ ?_; clear hK9 K9
        refine Kw.WC_seq (fun K31 hK31 => ?_)
        refine Kw.WC_region [some 132, some 2] rfl ?_
        refine Kw.WL_callc rfl rfl rfl rfl F.cl6 rfl (stored_c _) ?_; intro w32 bw32
        replace A_gx := A_gx.call bw32
        replace A_tb := A_tb.call bw32
        replace HB := Kw.Below.then HB (Nat.le_refl _) bw32
        clear bw32
        refine Kw.WL_v rfl rfl rfl (Kw.R_assign rfl) ?_
        refine Kw.WL_nil ?_
        refine hK31 _ _ ?_; clear hK31 K31
        refine Kw.WC_sub (l' := [(2, .bool true)]) (Kw.Sub.cons rfl Kw.Sub.nil) ?_
        refine Kw.WC_ret ?_
        exact Kw.post_ret1 rfl rfl ⟨rfl, HB⟩
end Go.Proofs.Ytcmgeadakncgmaa.Fn
