/- The document's digits, words and lines. -/
import Derived.Test.YtpggmnomcahijaaDoorSb
namespace Go.Proofs.YtpggmnomcahijaaDoor.Fn
open Go Go.Proofs Go.RowKit
set_option linter.unusedVariables false
set_option linter.unusedSimpArgs false
/-! ### The document's functions, in plain words -/
theorem dig_ex : ∀ n, n < 16 → digitsB.extract n (n + 1) = bA [dg n] := by decide +kernel
def valR (y : UInt8) : Int := if valI y = -1 then 0 else valI y
theorem valR_dg : ∀ n, n < 16 → valR (dg n) = (n : Int) := by decide +kernel
theorem valR_no : ∀ n, n < 256 → (∀ j, j < 16 → dg j ≠ UInt8.ofNat n) → valR (UInt8.ofNat n) = 0 := by decide +kernel
theorem valR_none {y : UInt8} (h : ∀ j, j < 16 → dg j ≠ y) : valR y = 0 := by
  have := valR_no y.toNat (UInt8.toNat_lt y)
  rw [UInt8.ofNat_toNat] at this
  exact this h
theorem valR_range (y : UInt8) : 0 ≤ valR y ∧ valR y ≤ 15 := by
  have := valI_range y
  unfold valR; split <;> omega
theorem byt_one (y : UInt8) : Kw.byt (bA [y]) 0 = ((y.toNat : Nat) : Int) := by
  rw [byt_list (bA [y]) 0 (by rw [bA_back]; exact Nat.zero_lt_one)]; rfl
def wordK (k : Int) : List UInt8 := if 1 ≤ k ∧ k ≤ 13 then wordL k.toNat else []
def numK (k : Int) : Nat := if 1 ≤ k ∧ k ≤ 13 then numsN k.toNat else 0
def txtK (k : Int) : Bool := if 1 ≤ k ∧ k ≤ 13 then txtB k.toNat else false
theorem wordK_none {k : Int} (h : ¬(1 ≤ k ∧ k ≤ 13)) : wordK k = [] := if_neg h
theorem numK_none {k : Int} (h : k ≠ 3 ∧ k ≠ 4 ∧ k ≠ 5 ∧ k ≠ 6 ∧ k ≠ 7 ∧ k ≠ 8 ∧ k ≠ 9 ∧ k ≠ 10 ∧ k ≠ 11 ∧ k ≠ 12 ∧ k ≠ 13) : numK k = 0 := by
  unfold numK
  split
  · have : k = 1 ∨ k = 2 := by omega
    rcases this with rfl | rfl <;> rfl
  · rfl
theorem txtK_none {k : Int} (h : k ≠ 1 ∧ k ≠ 9 ∧ k ≠ 13) : txtK k = false := by
  unfold txtK
  split
  · have : k = 2 ∨ k = 3 ∨ k = 4 ∨ k = 5 ∨ k = 6 ∨ k = 7 ∨ k = 8 ∨ k = 10 ∨ k = 11 ∨ k = 12 := by omega
    rcases this with rfl | rfl | rfl | rfl | rfl | rfl | rfl | rfl | rfl | rfl <;> rfl
  · rfl

set_option maxRecDepth 100000 in
set_option maxHeartbeats 4000000 in
theorem digit_c (n : Nat) (h : n < 16) (w : World) : Calls Tryd.prog 45 #[.int .i64 (n : Int)] w fun e w' => e = .returned (.string (bA [dg n])) ∧ w' = w := by
  have HB : w = w := rfl
  refine Kw.enter Tryd.func45 rfl Tryd.ntmps45 rfl rfl ?_
  refine Kw.WC_seq (fun K1 hK1 => ?_)
  refine Kw.WC_region [some 2] rfl ?_
  refine Kw.WL_v rfl rfl rfl (Kw.R_assign rfl) ?_
  refine Kw.WL_nil ?_
  refine hK1 _ _ ?_; clear hK1 K1
  refine Kw.WC_seq (fun K2 hK2 => ?_)
  refine Kw.WC_region [some 3, some 4, some 5, some 6, some 2] rfl ?_
  refine Kw.WL_v rfl rfl rfl (Kw.R_move rfl) ?_
  refine Kw.WL_v rfl rfl rfl (Kw.R_move rfl) ?_
  refine Kw.WL_v rfl rfl rfl (Kw.R_add (c := ((n + 1 : Nat) : Int)) rfl rfl (by rw [Kw.wrap_i64 (by omega)]; omega)) ?_
  refine Kw.WL_v rfl rfl rfl (Kw.R_slices (i := n) (j := (n + 1 : Nat)) (r := (bA [dg n])) Tryd.underlying9 rfl ⟨_, rfl⟩ ⟨_, rfl⟩ (by omega) (by show n + 1 ≤ 16; omega) (dig_ex n h)) ?_
  refine Kw.WL_v rfl rfl rfl (Kw.R_assign rfl) ?_
  refine Kw.WL_nil ?_
  refine hK2 _ _ ?_; clear hK2 K2
  refine Kw.WC_ret ?_
  exact Kw.post_ret1 rfl rfl ⟨rfl, HB⟩

set_option maxRecDepth 100000 in
set_option maxHeartbeats 4000000 in
theorem value_c (y : UInt8) (w : World) : Calls Tryd.prog 46 #[.int .u8 ((y.toNat : Nat) : Int)] w fun e w' => e = .returned (.int .i64 (valR y)) ∧ w' = w := by
  have HB : w = w := rfl
  refine Kw.enter Tryd.func46 rfl Tryd.ntmps46 rfl rfl ?_
  refine Kw.WC_seq (fun K1 hK1 => ?_)
  refine Kw.WC_region [some 2] rfl ?_
  refine Kw.WL_v rfl rfl rfl (Kw.R_assign rfl) ?_
  refine Kw.WL_nil ?_
  refine hK1 _ _ ?_; clear hK1 K1
  refine Kw.WC_seq (fun K2 hK2 => ?_)
  refine Kw.WC_seq (fun K3 hK3 => ?_)
  refine Kw.WC_region [some 3] rfl ?_
  refine Kw.WL_v rfl rfl rfl (Kw.R_assign rfl) ?_
  refine Kw.WL_nil ?_
  refine hK3 _ _ ?_; clear hK3 K3
  refine Kw.WC_block ?_
  refine Kw.WC_loop (ι := Nat) (fun (i : Nat) (ww : World) => (i ≤ 16 ∧ ∀ j, j < i → dg j ≠ y) ∧ ww = w) (fun (i : Nat) => [(0, .int .u8 ((y.toNat : Nat) : Int)), (3, .int .i64 (i : Int))]) (fun (i : Nat) => 16 - i) 0 ⟨⟨Nat.zero_le _, fun j hj => absurd hj (Nat.not_lt_zero _)⟩, HB⟩ (Kw.Sub.cons rfl (Kw.Sub.cons rfl Kw.Sub.nil)) ?_
  clear HB
  rintro i w4 ⟨⟨hi, hno⟩, HB⟩
  refine Kw.WC_seq (fun K5 hK5 => ?_)
  refine Kw.WC_seq (fun K6 hK6 => ?_)
  refine Kw.WC_region [some 4, some 5] rfl ?_
  refine Kw.WL_v rfl rfl rfl (Kw.R_move rfl) ?_
  by_cases c7 : (i : Int) < 16
  ·
    refine Kw.WL_v rfl rfl rfl (Kw.R_lss (z := true) rfl rfl (decide_eq_true c7)) ?_
    refine Kw.WL_nil ?_
    refine hK6 _ _ ?_; clear hK6 K6
    refine Kw.WC_true rfl ?_
    refine Kw.WC_skip ?_
    refine hK5 _ _ ?_; clear hK5 K5
    refine Kw.WC_seq (fun K8 hK8 => ?_)
    refine Kw.WC_block ?_
    refine Kw.WC_seq (fun K9 hK9 => ?_)
    refine Kw.WC_region [some 8, some 9, some 10, some 11, some 12] rfl ?_
    refine Kw.WL_v rfl rfl rfl (Kw.R_move rfl) ?_
    refine Kw.WL_callc rfl rfl rfl rfl F.cl45 rfl (digit_c i (by omega) w4) ?_; intro ww hww; rw [hww]; clear hww ww
    refine Kw.WL_v rfl rfl rfl (Kw.R_indexb (i := 0) (c := (((dg i).toNat : Nat) : Int)) Tryd.underlying9 rfl rfl (by rw [bA_size]; exact Nat.zero_lt_one) (byt_one _)) ?_
    refine Kw.WL_v rfl rfl rfl (Kw.R_move rfl) ?_
    by_cases cy : (((dg i).toNat : Nat) : Int) = ((y.toNat : Nat) : Int)
    ·
      refine Kw.WL_v rfl rfl rfl (Kw.R_eqi (z := true) rfl rfl (decide_eq_true cy)) ?_
      have hyy : dg i = y := UInt8.toNat_inj.1 (by omega)
      refine Kw.WL_nil ?_
      refine hK9 _ _ ?_; clear hK9 K9
      refine Kw.WC_sub (l' := [(0, .int .u8 ((y.toNat : Nat) : Int)), (3, .int .i64 (i : Int)), (12, .bool true)]) (Kw.Sub.cons rfl (Kw.Sub.cons rfl (Kw.Sub.cons rfl Kw.Sub.nil))) ?_
      refine Kw.WC_true rfl ?_
      refine Kw.WC_seq (fun K10 hK10 => ?_)
      refine Kw.WC_region [some 13, some 2] rfl ?_
      refine Kw.WL_v rfl rfl rfl (Kw.R_move rfl) ?_
      refine Kw.WL_v rfl rfl rfl (Kw.R_assign rfl) ?_
      refine Kw.WL_nil ?_
      refine hK10 _ _ ?_; clear hK10 K10
      refine Kw.WC_ret ?_
      refine Kw.QR_block ?_
      refine Kw.QR_then ?_; clear hK8 K8
      refine Kw.QR_then ?_
      refine Kw.QR_block ?_
      refine Kw.QR_then ?_; clear hK2 K2
      exact Kw.post_ret1 rfl rfl ⟨by rw [← hyy, valR_dg i (by omega)], HB⟩
    ·
      refine Kw.WL_v rfl rfl rfl (Kw.R_eqi (z := false) rfl rfl (decide_eq_false cy)) ?_
      refine Kw.WL_nil ?_
      refine hK9 _ _ ?_; clear hK9 K9
      refine Kw.WC_sub (l' := [(0, .int .u8 ((y.toNat : Nat) : Int)), (3, .int .i64 (i : Int)), (12, .bool false)]) (Kw.Sub.cons rfl (Kw.Sub.cons rfl (Kw.Sub.cons rfl Kw.Sub.nil))) ?_
      refine Kw.WC_false rfl ?_
      refine Kw.WC_skip ?_
      refine Kw.QN_block ?_
      refine hK8 _ _ ?_; clear hK8 K8
      refine Kw.WC_region [some 6, some 7, some 3] rfl ?_
      refine Kw.WL_v rfl rfl rfl (Kw.R_move rfl) ?_
      refine Kw.WL_v rfl rfl rfl (Kw.R_add (c := ((i + 1 : Nat) : Int)) rfl rfl (by rw [Kw.wrap_i64 (by omega)]; omega)) ?_
      refine Kw.WL_v rfl rfl rfl (Kw.R_assign rfl) ?_
      refine Kw.WL_nil ?_
      refine Kw.QN_round (i + 1) ⟨⟨by omega, fun j hj => by
          rcases Nat.lt_or_ge j i with h | h
          · exact hno j h
          · obtain rfl : j = i := by omega
            intro e; exact cy (by rw [e])⟩, HB⟩ (by omega) (Kw.Sub.cons rfl (Kw.Sub.cons rfl Kw.Sub.nil))
  ·
    refine Kw.WL_v rfl rfl rfl (Kw.R_lss (z := false) rfl rfl (decide_eq_false c7)) ?_
    refine Kw.WL_nil ?_
    refine hK6 _ _ ?_; clear hK6 K6
    refine Kw.WC_false rfl ?_
    refine Kw.WC_exit ?_
    refine Kw.QE_then ?_; clear hK5 K5
    refine Kw.QE_then ?_
    refine Kw.QE_here ?_
    refine hK2 _ _ ?_; clear hK2 K2
    refine Kw.WC_seq (fun K11 hK11 => ?_)
    refine Kw.WC_region [some 2] rfl ?_
    refine Kw.WL_v rfl rfl rfl (Kw.R_assign rfl) ?_
    refine Kw.WL_nil ?_
    refine hK11 _ _ ?_; clear hK11 K11
    refine Kw.WC_ret ?_
    exact Kw.post_ret1 rfl rfl ⟨by rw [valR_none (fun j hj => hno j (by omega))], HB⟩

set_option maxRecDepth 100000 in
set_option maxHeartbeats 4000000 in
theorem word_c (k : Int) (w : World) : Calls Tryd.prog 29 #[.int .i64 k] w fun e w' => e = .returned (.string (bA (wordK k))) ∧ w' = w := by
  have HB : w = w := rfl
  refine Kw.enter Tryd.func29 rfl Tryd.ntmps29 rfl rfl ?_
  refine Kw.WC_seq (fun K1 hK1 => ?_)
  refine Kw.WC_region [some 2] rfl ?_
  refine Kw.WL_v rfl rfl rfl (Kw.R_assign rfl) ?_
  refine Kw.WL_nil ?_
  refine hK1 _ _ ?_; clear hK1 K1
  refine Kw.WC_seq (fun K2 hK2 => ?_)
  refine Kw.WC_seq (fun K3 hK3 => ?_)
  refine Kw.WC_region [some 3] rfl ?_
  refine Kw.WL_v rfl rfl rfl (Kw.R_move rfl) ?_
  refine Kw.WL_nil ?_
  refine hK3 _ _ ?_; clear hK3 K3
  refine Kw.WC_block ?_
  refine Kw.WC_seq (fun K4 hK4 => ?_)
  refine Kw.WC_region [some 5, some 4] rfl ?_
  by_cases ck5 : (k : Int) = 1
  ·
    refine Kw.WL_v rfl rfl rfl (Kw.R_eqi (z := true) rfl rfl (decide_eq_true ck5)) ?_
    refine Kw.WL_v rfl rfl rfl (Kw.R_assign rfl) ?_
    refine Kw.WL_nil ?_
    refine hK4 _ _ ?_; clear hK4 K4
    refine Kw.WC_true rfl ?_
    refine Kw.WC_seq (fun K5 hK5 => ?_)
    refine Kw.WC_region [some 2] rfl ?_
    refine Kw.WL_v rfl rfl rfl (Kw.R_assign rfl) ?_
    refine Kw.WL_nil ?_
    refine hK5 _ _ ?_; clear hK5 K5
    refine Kw.WC_ret ?_
    refine Kw.QR_block ?_
    refine Kw.QR_then ?_; clear hK2 K2
    exact Kw.post_ret1 rfl rfl ⟨by rw [ck5]; rfl, HB⟩
  ·
    refine Kw.WL_v rfl rfl rfl (Kw.R_eqi (z := false) rfl rfl (decide_eq_false ck5)) ?_
    refine Kw.WL_v rfl rfl rfl (Kw.R_assign rfl) ?_
    refine Kw.WL_nil ?_
    refine hK4 _ _ ?_; clear hK4 K4
    refine Kw.WC_false rfl ?_
    refine Kw.WC_seq (fun K6 hK6 => ?_)
    refine Kw.WC_region [some 7, some 6] rfl ?_
    by_cases ck7 : (k : Int) = 2
    ·
      refine Kw.WL_v rfl rfl rfl (Kw.R_eqi (z := true) rfl rfl (decide_eq_true ck7)) ?_
      refine Kw.WL_v rfl rfl rfl (Kw.R_assign rfl) ?_
      refine Kw.WL_nil ?_
      refine hK6 _ _ ?_; clear hK6 K6
      refine Kw.WC_true rfl ?_
      refine Kw.WC_seq (fun K7 hK7 => ?_)
      refine Kw.WC_region [some 2] rfl ?_
      refine Kw.WL_v rfl rfl rfl (Kw.R_assign rfl) ?_
      refine Kw.WL_nil ?_
      refine hK7 _ _ ?_; clear hK7 K7
      refine Kw.WC_sub (l' := [(2, .string ⟨#[112, 117, 98, 108, 105, 115, 104]⟩)]) (Kw.Sub.cons rfl Kw.Sub.nil) ?_
      refine Kw.WC_ret ?_
      refine Kw.QR_block ?_
      refine Kw.QR_then ?_; clear hK2 K2
      exact Kw.post_ret1 rfl rfl ⟨by rw [ck7]; rfl, HB⟩
    ·
      refine Kw.WL_v rfl rfl rfl (Kw.R_eqi (z := false) rfl rfl (decide_eq_false ck7)) ?_
      refine Kw.WL_v rfl rfl rfl (Kw.R_assign rfl) ?_
      refine Kw.WL_nil ?_
      refine hK6 _ _ ?_; clear hK6 K6
      refine Kw.WC_false rfl ?_
      refine Kw.WC_seq (fun K8 hK8 => ?_)
      refine Kw.WC_region [some 9, some 8] rfl ?_
      by_cases ck9 : (k : Int) = 3
      ·
        refine Kw.WL_v rfl rfl rfl (Kw.R_eqi (z := true) rfl rfl (decide_eq_true ck9)) ?_
        refine Kw.WL_v rfl rfl rfl (Kw.R_assign rfl) ?_
        refine Kw.WL_nil ?_
        refine hK8 _ _ ?_; clear hK8 K8
        refine Kw.WC_sub (l' := [(3, .int .i64 k), (8, .bool true)]) (Kw.Sub.cons rfl (Kw.Sub.cons rfl Kw.Sub.nil)) ?_
        refine Kw.WC_true rfl ?_
        refine Kw.WC_seq (fun K9 hK9 => ?_)
        refine Kw.WC_region [some 2] rfl ?_
        refine Kw.WL_v rfl rfl rfl (Kw.R_assign rfl) ?_
        refine Kw.WL_nil ?_
        refine hK9 _ _ ?_; clear hK9 K9
        refine Kw.WC_ret ?_
        refine Kw.QR_block ?_
        refine Kw.QR_then ?_; clear hK2 K2
        exact Kw.post_ret1 rfl rfl ⟨by rw [ck9]; rfl, HB⟩
      ·
        refine Kw.WL_v rfl rfl rfl (Kw.R_eqi (z := false) rfl rfl (decide_eq_false ck9)) ?_
        refine Kw.WL_v rfl rfl rfl (Kw.R_assign rfl) ?_
        refine Kw.WL_nil ?_
        refine hK8 _ _ ?_; clear hK8 K8
        refine Kw.WC_sub (l' := [(3, .int .i64 k), (8, .bool false)]) (Kw.Sub.cons rfl (Kw.Sub.cons rfl Kw.Sub.nil)) ?_
        refine Kw.WC_false rfl ?_
        refine Kw.WC_seq (fun K10 hK10 => ?_)
        refine Kw.WC_region [some 11, some 10] rfl ?_
        by_cases ck11 : (k : Int) = 4
        ·
          refine Kw.WL_v rfl rfl rfl (Kw.R_eqi (z := true) rfl rfl (decide_eq_true ck11)) ?_
          refine Kw.WL_v rfl rfl rfl (Kw.R_assign rfl) ?_
          refine Kw.WL_nil ?_
          refine hK10 _ _ ?_; clear hK10 K10
          refine Kw.WC_true rfl ?_
          refine Kw.WC_seq (fun K11 hK11 => ?_)
          refine Kw.WC_region [some 2] rfl ?_
          refine Kw.WL_v rfl rfl rfl (Kw.R_assign rfl) ?_
          refine Kw.WL_nil ?_
          refine hK11 _ _ ?_; clear hK11 K11
          refine Kw.WC_ret ?_
          refine Kw.QR_block ?_
          refine Kw.QR_then ?_; clear hK2 K2
          exact Kw.post_ret1 rfl rfl ⟨by rw [ck11]; rfl, HB⟩
        ·
          refine Kw.WL_v rfl rfl rfl (Kw.R_eqi (z := false) rfl rfl (decide_eq_false ck11)) ?_
          refine Kw.WL_v rfl rfl rfl (Kw.R_assign rfl) ?_
          refine Kw.WL_nil ?_
          refine hK10 _ _ ?_; clear hK10 K10
          refine Kw.WC_false rfl ?_
          refine Kw.WC_seq (fun K12 hK12 => ?_)
          refine Kw.WC_region [some 13, some 12] rfl ?_
          by_cases ck13 : (k : Int) = 5
          ·
            refine Kw.WL_v rfl rfl rfl (Kw.R_eqi (z := true) rfl rfl (decide_eq_true ck13)) ?_
            refine Kw.WL_v rfl rfl rfl (Kw.R_assign rfl) ?_
            refine Kw.WL_nil ?_
            refine hK12 _ _ ?_; clear hK12 K12
            refine Kw.WC_true rfl ?_
            refine Kw.WC_seq (fun K13 hK13 => ?_)
            refine Kw.WC_region [some 2] rfl ?_
            refine Kw.WL_v rfl rfl rfl (Kw.R_assign rfl) ?_
            refine Kw.WL_nil ?_
            refine hK13 _ _ ?_; clear hK13 K13
            refine Kw.WC_sub (l' := [(2, .string ⟨#[100, 114, 111, 112]⟩)]) (Kw.Sub.cons rfl Kw.Sub.nil) ?_
            refine Kw.WC_ret ?_
            refine Kw.QR_block ?_
            refine Kw.QR_then ?_; clear hK2 K2
            exact Kw.post_ret1 rfl rfl ⟨by rw [ck13]; rfl, HB⟩
          ·
            refine Kw.WL_v rfl rfl rfl (Kw.R_eqi (z := false) rfl rfl (decide_eq_false ck13)) ?_
            refine Kw.WL_v rfl rfl rfl (Kw.R_assign rfl) ?_
            refine Kw.WL_nil ?_
            refine hK12 _ _ ?_; clear hK12 K12
            refine Kw.WC_false rfl ?_
            refine Kw.WC_seq (fun K14 hK14 => ?_)
            refine Kw.WC_region [some 15, some 14] rfl ?_
            by_cases ck15 : (k : Int) = 6
            ·
              refine Kw.WL_v rfl rfl rfl (Kw.R_eqi (z := true) rfl rfl (decide_eq_true ck15)) ?_
              refine Kw.WL_v rfl rfl rfl (Kw.R_assign rfl) ?_
              refine Kw.WL_nil ?_
              refine hK14 _ _ ?_; clear hK14 K14
              refine Kw.WC_sub (l' := [(3, .int .i64 k), (14, .bool true)]) (Kw.Sub.cons rfl (Kw.Sub.cons rfl Kw.Sub.nil)) ?_
              refine Kw.WC_true rfl ?_
              refine Kw.WC_seq (fun K15 hK15 => ?_)
              refine Kw.WC_region [some 2] rfl ?_
              refine Kw.WL_v rfl rfl rfl (Kw.R_assign rfl) ?_
              refine Kw.WL_nil ?_
              refine hK15 _ _ ?_; clear hK15 K15
              refine Kw.WC_ret ?_
              refine Kw.QR_block ?_
              refine Kw.QR_then ?_; clear hK2 K2
              exact Kw.post_ret1 rfl rfl ⟨by rw [ck15]; rfl, HB⟩
            ·
              refine Kw.WL_v rfl rfl rfl (Kw.R_eqi (z := false) rfl rfl (decide_eq_false ck15)) ?_
              refine Kw.WL_v rfl rfl rfl (Kw.R_assign rfl) ?_
              refine Kw.WL_nil ?_
              refine hK14 _ _ ?_; clear hK14 K14
              refine Kw.WC_sub (l' := [(3, .int .i64 k), (14, .bool false)]) (Kw.Sub.cons rfl (Kw.Sub.cons rfl Kw.Sub.nil)) ?_
              refine Kw.WC_false rfl ?_
              refine Kw.WC_seq (fun K16 hK16 => ?_)
              refine Kw.WC_region [some 17, some 16] rfl ?_
              by_cases ck17 : (k : Int) = 7
              ·
                refine Kw.WL_v rfl rfl rfl (Kw.R_eqi (z := true) rfl rfl (decide_eq_true ck17)) ?_
                refine Kw.WL_v rfl rfl rfl (Kw.R_assign rfl) ?_
                refine Kw.WL_nil ?_
                refine hK16 _ _ ?_; clear hK16 K16
                refine Kw.WC_true rfl ?_
                refine Kw.WC_seq (fun K17 hK17 => ?_)
                refine Kw.WC_region [some 2] rfl ?_
                refine Kw.WL_v rfl rfl rfl (Kw.R_assign rfl) ?_
                refine Kw.WL_nil ?_
                refine hK17 _ _ ?_; clear hK17 K17
                refine Kw.WC_ret ?_
                refine Kw.QR_block ?_
                refine Kw.QR_then ?_; clear hK2 K2
                exact Kw.post_ret1 rfl rfl ⟨by rw [ck17]; rfl, HB⟩
              ·
                refine Kw.WL_v rfl rfl rfl (Kw.R_eqi (z := false) rfl rfl (decide_eq_false ck17)) ?_
                refine Kw.WL_v rfl rfl rfl (Kw.R_assign rfl) ?_
                refine Kw.WL_nil ?_
                refine hK16 _ _ ?_; clear hK16 K16
                refine Kw.WC_false rfl ?_
                refine Kw.WC_seq (fun K18 hK18 => ?_)
                refine Kw.WC_region [some 19, some 18] rfl ?_
                by_cases ck19 : (k : Int) = 8
                ·
                  refine Kw.WL_v rfl rfl rfl (Kw.R_eqi (z := true) rfl rfl (decide_eq_true ck19)) ?_
                  refine Kw.WL_v rfl rfl rfl (Kw.R_assign rfl) ?_
                  refine Kw.WL_nil ?_
                  refine hK18 _ _ ?_; clear hK18 K18
                  refine Kw.WC_true rfl ?_
                  refine Kw.WC_seq (fun K19 hK19 => ?_)
                  refine Kw.WC_region [some 2] rfl ?_
                  refine Kw.WL_v rfl rfl rfl (Kw.R_assign rfl) ?_
                  refine Kw.WL_nil ?_
                  refine hK19 _ _ ?_; clear hK19 K19
                  refine Kw.WC_sub (l' := [(2, .string ⟨#[102, 108, 105, 112]⟩)]) (Kw.Sub.cons rfl Kw.Sub.nil) ?_
                  refine Kw.WC_ret ?_
                  refine Kw.QR_block ?_
                  refine Kw.QR_then ?_; clear hK2 K2
                  exact Kw.post_ret1 rfl rfl ⟨by rw [ck19]; rfl, HB⟩
                ·
                  refine Kw.WL_v rfl rfl rfl (Kw.R_eqi (z := false) rfl rfl (decide_eq_false ck19)) ?_
                  refine Kw.WL_v rfl rfl rfl (Kw.R_assign rfl) ?_
                  refine Kw.WL_nil ?_
                  refine hK18 _ _ ?_; clear hK18 K18
                  refine Kw.WC_false rfl ?_
                  refine Kw.WC_seq (fun K20 hK20 => ?_)
                  refine Kw.WC_region [some 21, some 20] rfl ?_
                  by_cases ck21 : (k : Int) = 9
                  ·
                    refine Kw.WL_v rfl rfl rfl (Kw.R_eqi (z := true) rfl rfl (decide_eq_true ck21)) ?_
                    refine Kw.WL_v rfl rfl rfl (Kw.R_assign rfl) ?_
                    refine Kw.WL_nil ?_
                    refine hK20 _ _ ?_; clear hK20 K20
                    refine Kw.WC_sub (l' := [(3, .int .i64 k), (20, .bool true)]) (Kw.Sub.cons rfl (Kw.Sub.cons rfl Kw.Sub.nil)) ?_
                    refine Kw.WC_true rfl ?_
                    refine Kw.WC_seq (fun K21 hK21 => ?_)
                    refine Kw.WC_region [some 2] rfl ?_
                    refine Kw.WL_v rfl rfl rfl (Kw.R_assign rfl) ?_
                    refine Kw.WL_nil ?_
                    refine hK21 _ _ ?_; clear hK21 K21
                    refine Kw.WC_ret ?_
                    refine Kw.QR_block ?_
                    refine Kw.QR_then ?_; clear hK2 K2
                    exact Kw.post_ret1 rfl rfl ⟨by rw [ck21]; rfl, HB⟩
                  ·
                    refine Kw.WL_v rfl rfl rfl (Kw.R_eqi (z := false) rfl rfl (decide_eq_false ck21)) ?_
                    refine Kw.WL_v rfl rfl rfl (Kw.R_assign rfl) ?_
                    refine Kw.WL_nil ?_
                    refine hK20 _ _ ?_; clear hK20 K20
                    refine Kw.WC_sub (l' := [(3, .int .i64 k), (20, .bool false)]) (Kw.Sub.cons rfl (Kw.Sub.cons rfl Kw.Sub.nil)) ?_
                    refine Kw.WC_false rfl ?_
                    refine Kw.WC_seq (fun K22 hK22 => ?_)
                    refine Kw.WC_region [some 23, some 22] rfl ?_
                    by_cases ck23 : (k : Int) = 10
                    ·
                      refine Kw.WL_v rfl rfl rfl (Kw.R_eqi (z := true) rfl rfl (decide_eq_true ck23)) ?_
                      refine Kw.WL_v rfl rfl rfl (Kw.R_assign rfl) ?_
                      refine Kw.WL_nil ?_
                      refine hK22 _ _ ?_; clear hK22 K22
                      refine Kw.WC_true rfl ?_
                      refine Kw.WC_seq (fun K23 hK23 => ?_)
                      refine Kw.WC_region [some 2] rfl ?_
                      refine Kw.WL_v rfl rfl rfl (Kw.R_assign rfl) ?_
                      refine Kw.WL_nil ?_
                      refine hK23 _ _ ?_; clear hK23 K23
                      refine Kw.WC_ret ?_
                      refine Kw.QR_block ?_
                      refine Kw.QR_then ?_; clear hK2 K2
                      exact Kw.post_ret1 rfl rfl ⟨by rw [ck23]; rfl, HB⟩
                    ·
                      refine Kw.WL_v rfl rfl rfl (Kw.R_eqi (z := false) rfl rfl (decide_eq_false ck23)) ?_
                      refine Kw.WL_v rfl rfl rfl (Kw.R_assign rfl) ?_
                      refine Kw.WL_nil ?_
                      refine hK22 _ _ ?_; clear hK22 K22
                      refine Kw.WC_false rfl ?_
                      refine Kw.WC_seq (fun K24 hK24 => ?_)
                      refine Kw.WC_region [some 25, some 24] rfl ?_
                      by_cases ck25 : (k : Int) = 11
                      ·
                        refine Kw.WL_v rfl rfl rfl (Kw.R_eqi (z := true) rfl rfl (decide_eq_true ck25)) ?_
                        refine Kw.WL_v rfl rfl rfl (Kw.R_assign rfl) ?_
                        refine Kw.WL_nil ?_
                        refine hK24 _ _ ?_; clear hK24 K24
                        refine Kw.WC_true rfl ?_
                        refine Kw.WC_seq (fun K25 hK25 => ?_)
                        refine Kw.WC_region [some 2] rfl ?_
                        refine Kw.WL_v rfl rfl rfl (Kw.R_assign rfl) ?_
                        refine Kw.WL_nil ?_
                        refine hK25 _ _ ?_; clear hK25 K25
                        refine Kw.WC_sub (l' := [(2, .string ⟨#[102, 97, 105, 108]⟩)]) (Kw.Sub.cons rfl Kw.Sub.nil) ?_
                        refine Kw.WC_ret ?_
                        refine Kw.QR_block ?_
                        refine Kw.QR_then ?_; clear hK2 K2
                        exact Kw.post_ret1 rfl rfl ⟨by rw [ck25]; rfl, HB⟩
                      ·
                        refine Kw.WL_v rfl rfl rfl (Kw.R_eqi (z := false) rfl rfl (decide_eq_false ck25)) ?_
                        refine Kw.WL_v rfl rfl rfl (Kw.R_assign rfl) ?_
                        refine Kw.WL_nil ?_
                        refine hK24 _ _ ?_; clear hK24 K24
                        refine Kw.WC_false rfl ?_
                        refine Kw.WC_seq (fun K26 hK26 => ?_)
                        refine Kw.WC_region [some 27, some 26] rfl ?_
                        by_cases ck27 : (k : Int) = 12
                        ·
                          refine Kw.WL_v rfl rfl rfl (Kw.R_eqi (z := true) rfl rfl (decide_eq_true ck27)) ?_
                          refine Kw.WL_v rfl rfl rfl (Kw.R_assign rfl) ?_
                          refine Kw.WL_nil ?_
                          refine hK26 _ _ ?_; clear hK26 K26
                          refine Kw.WC_sub (l' := [(3, .int .i64 k), (26, .bool true)]) (Kw.Sub.cons rfl (Kw.Sub.cons rfl Kw.Sub.nil)) ?_
                          refine Kw.WC_true rfl ?_
                          refine Kw.WC_seq (fun K27 hK27 => ?_)
                          refine Kw.WC_region [some 2] rfl ?_
                          refine Kw.WL_v rfl rfl rfl (Kw.R_assign rfl) ?_
                          refine Kw.WL_nil ?_
                          refine hK27 _ _ ?_; clear hK27 K27
                          refine Kw.WC_ret ?_
                          refine Kw.QR_block ?_
                          refine Kw.QR_then ?_; clear hK2 K2
                          exact Kw.post_ret1 rfl rfl ⟨by rw [ck27]; rfl, HB⟩
                        ·
                          refine Kw.WL_v rfl rfl rfl (Kw.R_eqi (z := false) rfl rfl (decide_eq_false ck27)) ?_
                          refine Kw.WL_v rfl rfl rfl (Kw.R_assign rfl) ?_
                          refine Kw.WL_nil ?_
                          refine hK26 _ _ ?_; clear hK26 K26
                          refine Kw.WC_sub (l' := [(3, .int .i64 k), (26, .bool false)]) (Kw.Sub.cons rfl (Kw.Sub.cons rfl Kw.Sub.nil)) ?_
                          refine Kw.WC_false rfl ?_
                          refine Kw.WC_seq (fun K28 hK28 => ?_)
                          refine Kw.WC_region [some 29, some 28] rfl ?_
                          by_cases ck29 : (k : Int) = 13
                          ·
                            refine Kw.WL_v rfl rfl rfl (Kw.R_eqi (z := true) rfl rfl (decide_eq_true ck29)) ?_
                            refine Kw.WL_v rfl rfl rfl (Kw.R_assign rfl) ?_
                            refine Kw.WL_nil ?_
                            refine hK28 _ _ ?_; clear hK28 K28
                            refine Kw.WC_true rfl ?_
                            refine Kw.WC_seq (fun K29 hK29 => ?_)
                            refine Kw.WC_region [some 2] rfl ?_
                            refine Kw.WL_v rfl rfl rfl (Kw.R_assign rfl) ?_
                            refine Kw.WL_nil ?_
                            refine hK29 _ _ ?_; clear hK29 K29
                            refine Kw.WC_ret ?_
                            refine Kw.QR_block ?_
                            refine Kw.QR_then ?_; clear hK2 K2
                            exact Kw.post_ret1 rfl rfl ⟨by rw [ck29]; rfl, HB⟩
                          ·
                            refine Kw.WL_v rfl rfl rfl (Kw.R_eqi (z := false) rfl rfl (decide_eq_false ck29)) ?_
                            refine Kw.WL_v rfl rfl rfl (Kw.R_assign rfl) ?_
                            refine Kw.WL_nil ?_
                            refine hK28 _ _ ?_; clear hK28 K28
                            refine Kw.WC_false rfl ?_
                            refine Kw.WC_skip ?_
                            refine Kw.QN_block ?_
                            refine hK2 _ _ ?_; clear hK2 K2
                            refine Kw.WC_seq (fun K30 hK30 => ?_)
                            refine Kw.WC_region [some 2] rfl ?_
                            refine Kw.WL_v rfl rfl rfl (Kw.R_assign rfl) ?_
                            refine Kw.WL_nil ?_
                            refine hK30 _ _ ?_; clear hK30 K30
                            refine Kw.WC_ret ?_
                            exact Kw.post_ret1 rfl rfl ⟨by rw [wordK_none (by omega)]; rfl, HB⟩

set_option maxRecDepth 100000 in
set_option maxHeartbeats 4000000 in
theorem numbers_c (k : Int) (w : World) : Calls Tryd.prog 30 #[.int .i64 k] w fun e w' => e = .returned (.int .i64 (numK k : Int)) ∧ w' = w := by
  have HB : w = w := rfl
  refine Kw.enter Tryd.func30 rfl Tryd.ntmps30 rfl rfl ?_
  refine Kw.WC_seq (fun K1 hK1 => ?_)
  refine Kw.WC_region [some 2] rfl ?_
  refine Kw.WL_v rfl rfl rfl (Kw.R_assign rfl) ?_
  refine Kw.WL_nil ?_
  refine hK1 _ _ ?_; clear hK1 K1
  refine Kw.WC_seq (fun K2 hK2 => ?_)
  refine Kw.WC_seq (fun K3 hK3 => ?_)
  refine Kw.WC_region [some 3] rfl ?_
  refine Kw.WL_v rfl rfl rfl (Kw.R_move rfl) ?_
  refine Kw.WL_nil ?_
  refine hK3 _ _ ?_; clear hK3 K3
  refine Kw.WC_block ?_
  refine Kw.WC_seq (fun K4 hK4 => ?_)
  refine Kw.WC_seq (fun K5 hK5 => ?_)
  refine Kw.WC_region [some 5, some 4] rfl ?_
  by_cases ck5 : (k : Int) = 4
  ·
    refine Kw.WL_v rfl rfl rfl (Kw.R_eqi (z := true) rfl rfl (decide_eq_true ck5)) ?_
    refine Kw.WL_v rfl rfl rfl (Kw.R_assign rfl) ?_
    refine Kw.WL_nil ?_
    refine hK5 _ _ ?_; clear hK5 K5
    refine Kw.WC_true rfl ?_
    refine Kw.WC_skip ?_
    refine hK4 _ _ ?_; clear hK4 K4
    refine Kw.WC_true rfl ?_
    refine Kw.WC_seq (fun K6 hK6 => ?_)
    refine Kw.WC_region [some 2] rfl ?_
    refine Kw.WL_v rfl rfl rfl (Kw.R_assign rfl) ?_
    refine Kw.WL_nil ?_
    refine hK6 _ _ ?_; clear hK6 K6
    refine Kw.WC_ret ?_
    refine Kw.QR_block ?_
    refine Kw.QR_then ?_; clear hK2 K2
    exact Kw.post_ret1 rfl rfl ⟨by rw [ck5]; rfl, HB⟩
  ·
    refine Kw.WL_v rfl rfl rfl (Kw.R_eqi (z := false) rfl rfl (decide_eq_false ck5)) ?_
    refine Kw.WL_v rfl rfl rfl (Kw.R_assign rfl) ?_
    refine Kw.WL_nil ?_
    refine hK5 _ _ ?_; clear hK5 K5
    refine Kw.WC_false rfl ?_
    refine Kw.WC_seq (fun K7 hK7 => ?_)
    refine Kw.WC_region [some 6, some 4] rfl ?_
    by_cases ck6 : (k : Int) = 5
    ·
      refine Kw.WL_v rfl rfl rfl (Kw.R_eqi (z := true) rfl rfl (decide_eq_true ck6)) ?_
      refine Kw.WL_v rfl rfl rfl (Kw.R_assign rfl) ?_
      refine Kw.WL_nil ?_
      refine hK7 _ _ ?_; clear hK7 K7
      refine Kw.WC_true rfl ?_
      refine Kw.WC_skip ?_
      refine hK4 _ _ ?_; clear hK4 K4
      refine Kw.WC_true rfl ?_
      refine Kw.WC_seq (fun K8 hK8 => ?_)
      refine Kw.WC_region [some 2] rfl ?_
      refine Kw.WL_v rfl rfl rfl (Kw.R_assign rfl) ?_
      refine Kw.WL_nil ?_
      refine hK8 _ _ ?_; clear hK8 K8
      refine Kw.WC_ret ?_
      refine Kw.QR_block ?_
      refine Kw.QR_then ?_; clear hK2 K2
      exact Kw.post_ret1 rfl rfl ⟨by rw [ck6]; rfl, HB⟩
    ·
      refine Kw.WL_v rfl rfl rfl (Kw.R_eqi (z := false) rfl rfl (decide_eq_false ck6)) ?_
      refine Kw.WL_v rfl rfl rfl (Kw.R_assign rfl) ?_
      refine Kw.WL_nil ?_
      refine hK7 _ _ ?_; clear hK7 K7
      refine Kw.WC_false rfl ?_
      refine Kw.WC_seq (fun K9 hK9 => ?_)
      refine Kw.WC_region [some 7, some 4] rfl ?_
      by_cases ck7 : (k : Int) = 6
      ·
        refine Kw.WL_v rfl rfl rfl (Kw.R_eqi (z := true) rfl rfl (decide_eq_true ck7)) ?_
        refine Kw.WL_v rfl rfl rfl (Kw.R_assign rfl) ?_
        refine Kw.WL_nil ?_
        refine hK9 _ _ ?_; clear hK9 K9
        refine Kw.WC_true rfl ?_
        refine Kw.WC_skip ?_
        refine hK4 _ _ ?_; clear hK4 K4
        refine Kw.WC_true rfl ?_
        refine Kw.WC_seq (fun K10 hK10 => ?_)
        refine Kw.WC_region [some 2] rfl ?_
        refine Kw.WL_v rfl rfl rfl (Kw.R_assign rfl) ?_
        refine Kw.WL_nil ?_
        refine hK10 _ _ ?_; clear hK10 K10
        refine Kw.WC_sub (l' := [(2, .int .i64 1)]) (Kw.Sub.cons rfl Kw.Sub.nil) ?_
        refine Kw.WC_ret ?_
        refine Kw.QR_block ?_
        refine Kw.QR_then ?_; clear hK2 K2
        exact Kw.post_ret1 rfl rfl ⟨by rw [ck7]; rfl, HB⟩
      ·
        refine Kw.WL_v rfl rfl rfl (Kw.R_eqi (z := false) rfl rfl (decide_eq_false ck7)) ?_
        refine Kw.WL_v rfl rfl rfl (Kw.R_assign rfl) ?_
        refine Kw.WL_nil ?_
        refine hK9 _ _ ?_; clear hK9 K9
        refine Kw.WC_false rfl ?_
        refine Kw.WC_seq (fun K11 hK11 => ?_)
        refine Kw.WC_region [some 8, some 4] rfl ?_
        by_cases ck8 : (k : Int) = 12
        ·
          refine Kw.WL_v rfl rfl rfl (Kw.R_eqi (z := true) rfl rfl (decide_eq_true ck8)) ?_
          refine Kw.WL_v rfl rfl rfl (Kw.R_assign rfl) ?_
          refine Kw.WL_nil ?_
          refine hK11 _ _ ?_; clear hK11 K11
          refine Kw.WC_sub (l' := [(3, .int .i64 k), (4, .bool true)]) (Kw.Sub.cons rfl (Kw.Sub.cons rfl Kw.Sub.nil)) ?_
          refine Kw.WC_true rfl ?_
          refine Kw.WC_skip ?_
          refine hK4 _ _ ?_; clear hK4 K4
          refine Kw.WC_true rfl ?_
          refine Kw.WC_seq (fun K12 hK12 => ?_)
          refine Kw.WC_region [some 2] rfl ?_
          refine Kw.WL_v rfl rfl rfl (Kw.R_assign rfl) ?_
          refine Kw.WL_nil ?_
          refine hK12 _ _ ?_; clear hK12 K12
          refine Kw.WC_ret ?_
          refine Kw.QR_block ?_
          refine Kw.QR_then ?_; clear hK2 K2
          exact Kw.post_ret1 rfl rfl ⟨by rw [ck8]; rfl, HB⟩
        ·
          refine Kw.WL_v rfl rfl rfl (Kw.R_eqi (z := false) rfl rfl (decide_eq_false ck8)) ?_
          refine Kw.WL_v rfl rfl rfl (Kw.R_assign rfl) ?_
          refine Kw.WL_nil ?_
          refine hK11 _ _ ?_; clear hK11 K11
          refine Kw.WC_sub (l' := [(3, .int .i64 k), (4, .bool false)]) (Kw.Sub.cons rfl (Kw.Sub.cons rfl Kw.Sub.nil)) ?_
          refine Kw.WC_false rfl ?_
          refine Kw.WC_region [some 9, some 4] rfl ?_
          by_cases ck9 : (k : Int) = 13
          ·
            refine Kw.WL_v rfl rfl rfl (Kw.R_eqi (z := true) rfl rfl (decide_eq_true ck9)) ?_
            refine Kw.WL_v rfl rfl rfl (Kw.R_assign rfl) ?_
            refine Kw.WL_nil ?_
            refine hK4 _ _ ?_; clear hK4 K4
            refine Kw.WC_true rfl ?_
            refine Kw.WC_seq (fun K13 hK13 => ?_)
            refine Kw.WC_region [some 2] rfl ?_
            refine Kw.WL_v rfl rfl rfl (Kw.R_assign rfl) ?_
            refine Kw.WL_nil ?_
            refine hK13 _ _ ?_; clear hK13 K13
            refine Kw.WC_ret ?_
            refine Kw.QR_block ?_
            refine Kw.QR_then ?_; clear hK2 K2
            exact Kw.post_ret1 rfl rfl ⟨by rw [ck9]; rfl, HB⟩
          ·
            refine Kw.WL_v rfl rfl rfl (Kw.R_eqi (z := false) rfl rfl (decide_eq_false ck9)) ?_
            refine Kw.WL_v rfl rfl rfl (Kw.R_assign rfl) ?_
            refine Kw.WL_nil ?_
            refine hK4 _ _ ?_; clear hK4 K4
            refine Kw.WC_false rfl ?_
            refine Kw.WC_seq (fun K14 hK14 => ?_)
            refine Kw.WC_seq (fun K15 hK15 => ?_)
            refine Kw.WC_region [some 11, some 10] rfl ?_
            by_cases ck11 : (k : Int) = 3
            ·
              refine Kw.WL_v rfl rfl rfl (Kw.R_eqi (z := true) rfl rfl (decide_eq_true ck11)) ?_
              refine Kw.WL_v rfl rfl rfl (Kw.R_assign rfl) ?_
              refine Kw.WL_nil ?_
              refine hK15 _ _ ?_; clear hK15 K15
              refine Kw.WC_true rfl ?_
              refine Kw.WC_skip ?_
              refine hK14 _ _ ?_; clear hK14 K14
              refine Kw.WC_true rfl ?_
              refine Kw.WC_seq (fun K16 hK16 => ?_)
              refine Kw.WC_region [some 2] rfl ?_
              refine Kw.WL_v rfl rfl rfl (Kw.R_assign rfl) ?_
              refine Kw.WL_nil ?_
              refine hK16 _ _ ?_; clear hK16 K16
              refine Kw.WC_ret ?_
              refine Kw.QR_block ?_
              refine Kw.QR_then ?_; clear hK2 K2
              exact Kw.post_ret1 rfl rfl ⟨by rw [ck11]; rfl, HB⟩
            ·
              refine Kw.WL_v rfl rfl rfl (Kw.R_eqi (z := false) rfl rfl (decide_eq_false ck11)) ?_
              refine Kw.WL_v rfl rfl rfl (Kw.R_assign rfl) ?_
              refine Kw.WL_nil ?_
              refine hK15 _ _ ?_; clear hK15 K15
              refine Kw.WC_false rfl ?_
              refine Kw.WC_seq (fun K17 hK17 => ?_)
              refine Kw.WC_region [some 12, some 10] rfl ?_
              by_cases ck12 : (k : Int) = 7
              ·
                refine Kw.WL_v rfl rfl rfl (Kw.R_eqi (z := true) rfl rfl (decide_eq_true ck12)) ?_
                refine Kw.WL_v rfl rfl rfl (Kw.R_assign rfl) ?_
                refine Kw.WL_nil ?_
                refine hK17 _ _ ?_; clear hK17 K17
                refine Kw.WC_true rfl ?_
                refine Kw.WC_skip ?_
                refine hK14 _ _ ?_; clear hK14 K14
                refine Kw.WC_true rfl ?_
                refine Kw.WC_seq (fun K18 hK18 => ?_)
                refine Kw.WC_region [some 2] rfl ?_
                refine Kw.WL_v rfl rfl rfl (Kw.R_assign rfl) ?_
                refine Kw.WL_nil ?_
                refine hK18 _ _ ?_; clear hK18 K18
                refine Kw.WC_sub (l' := [(2, .int .i64 2)]) (Kw.Sub.cons rfl Kw.Sub.nil) ?_
                refine Kw.WC_ret ?_
                refine Kw.QR_block ?_
                refine Kw.QR_then ?_; clear hK2 K2
                exact Kw.post_ret1 rfl rfl ⟨by rw [ck12]; rfl, HB⟩
              ·
                refine Kw.WL_v rfl rfl rfl (Kw.R_eqi (z := false) rfl rfl (decide_eq_false ck12)) ?_
                refine Kw.WL_v rfl rfl rfl (Kw.R_assign rfl) ?_
                refine Kw.WL_nil ?_
                refine hK17 _ _ ?_; clear hK17 K17
                refine Kw.WC_false rfl ?_
                refine Kw.WC_seq (fun K19 hK19 => ?_)
                refine Kw.WC_region [some 13, some 10] rfl ?_
                by_cases ck13 : (k : Int) = 9
                ·
                  refine Kw.WL_v rfl rfl rfl (Kw.R_eqi (z := true) rfl rfl (decide_eq_true ck13)) ?_
                  refine Kw.WL_v rfl rfl rfl (Kw.R_assign rfl) ?_
                  refine Kw.WL_nil ?_
                  refine hK19 _ _ ?_; clear hK19 K19
                  refine Kw.WC_true rfl ?_
                  refine Kw.WC_skip ?_
                  refine hK14 _ _ ?_; clear hK14 K14
                  refine Kw.WC_true rfl ?_
                  refine Kw.WC_seq (fun K20 hK20 => ?_)
                  refine Kw.WC_region [some 2] rfl ?_
                  refine Kw.WL_v rfl rfl rfl (Kw.R_assign rfl) ?_
                  refine Kw.WL_nil ?_
                  refine hK20 _ _ ?_; clear hK20 K20
                  refine Kw.WC_sub (l' := [(2, .int .i64 2)]) (Kw.Sub.cons rfl Kw.Sub.nil) ?_
                  refine Kw.WC_ret ?_
                  refine Kw.QR_block ?_
                  refine Kw.QR_then ?_; clear hK2 K2
                  exact Kw.post_ret1 rfl rfl ⟨by rw [ck13]; rfl, HB⟩
                ·
                  refine Kw.WL_v rfl rfl rfl (Kw.R_eqi (z := false) rfl rfl (decide_eq_false ck13)) ?_
                  refine Kw.WL_v rfl rfl rfl (Kw.R_assign rfl) ?_
                  refine Kw.WL_nil ?_
                  refine hK19 _ _ ?_; clear hK19 K19
                  refine Kw.WC_false rfl ?_
                  refine Kw.WC_region [some 14, some 10] rfl ?_
                  by_cases ck14 : (k : Int) = 10
                  ·
                    refine Kw.WL_v rfl rfl rfl (Kw.R_eqi (z := true) rfl rfl (decide_eq_true ck14)) ?_
                    refine Kw.WL_v rfl rfl rfl (Kw.R_assign rfl) ?_
                    refine Kw.WL_nil ?_
                    refine hK14 _ _ ?_; clear hK14 K14
                    refine Kw.WC_sub (l' := [(3, .int .i64 k), (10, .bool true)]) (Kw.Sub.cons rfl (Kw.Sub.cons rfl Kw.Sub.nil)) ?_
                    refine Kw.WC_true rfl ?_
                    refine Kw.WC_seq (fun K21 hK21 => ?_)
                    refine Kw.WC_region [some 2] rfl ?_
                    refine Kw.WL_v rfl rfl rfl (Kw.R_assign rfl) ?_
                    refine Kw.WL_nil ?_
                    refine hK21 _ _ ?_; clear hK21 K21
                    refine Kw.WC_ret ?_
                    refine Kw.QR_block ?_
                    refine Kw.QR_then ?_; clear hK2 K2
                    exact Kw.post_ret1 rfl rfl ⟨by rw [ck14]; rfl, HB⟩
                  ·
                    refine Kw.WL_v rfl rfl rfl (Kw.R_eqi (z := false) rfl rfl (decide_eq_false ck14)) ?_
                    refine Kw.WL_v rfl rfl rfl (Kw.R_assign rfl) ?_
                    refine Kw.WL_nil ?_
                    refine hK14 _ _ ?_; clear hK14 K14
                    refine Kw.WC_sub (l' := [(3, .int .i64 k), (10, .bool false)]) (Kw.Sub.cons rfl (Kw.Sub.cons rfl Kw.Sub.nil)) ?_
                    refine Kw.WC_false rfl ?_
                    refine Kw.WC_seq (fun K22 hK22 => ?_)
                    refine Kw.WC_seq (fun K23 hK23 => ?_)
                    refine Kw.WC_region [some 16, some 15] rfl ?_
                    by_cases ck16 : (k : Int) = 8
                    ·
                      refine Kw.WL_v rfl rfl rfl (Kw.R_eqi (z := true) rfl rfl (decide_eq_true ck16)) ?_
                      refine Kw.WL_v rfl rfl rfl (Kw.R_assign rfl) ?_
                      refine Kw.WL_nil ?_
                      refine hK23 _ _ ?_; clear hK23 K23
                      refine Kw.WC_true rfl ?_
                      refine Kw.WC_skip ?_
                      refine hK22 _ _ ?_; clear hK22 K22
                      refine Kw.WC_true rfl ?_
                      refine Kw.WC_seq (fun K24 hK24 => ?_)
                      refine Kw.WC_region [some 2] rfl ?_
                      refine Kw.WL_v rfl rfl rfl (Kw.R_assign rfl) ?_
                      refine Kw.WL_nil ?_
                      refine hK24 _ _ ?_; clear hK24 K24
                      refine Kw.WC_ret ?_
                      refine Kw.QR_block ?_
                      refine Kw.QR_then ?_; clear hK2 K2
                      exact Kw.post_ret1 rfl rfl ⟨by rw [ck16]; rfl, HB⟩
                    ·
                      refine Kw.WL_v rfl rfl rfl (Kw.R_eqi (z := false) rfl rfl (decide_eq_false ck16)) ?_
                      refine Kw.WL_v rfl rfl rfl (Kw.R_assign rfl) ?_
                      refine Kw.WL_nil ?_
                      refine hK23 _ _ ?_; clear hK23 K23
                      refine Kw.WC_false rfl ?_
                      refine Kw.WC_region [some 17, some 15] rfl ?_
                      by_cases ck17 : (k : Int) = 11
                      ·
                        refine Kw.WL_v rfl rfl rfl (Kw.R_eqi (z := true) rfl rfl (decide_eq_true ck17)) ?_
                        refine Kw.WL_v rfl rfl rfl (Kw.R_assign rfl) ?_
                        refine Kw.WL_nil ?_
                        refine hK22 _ _ ?_; clear hK22 K22
                        refine Kw.WC_true rfl ?_
                        refine Kw.WC_seq (fun K25 hK25 => ?_)
                        refine Kw.WC_region [some 2] rfl ?_
                        refine Kw.WL_v rfl rfl rfl (Kw.R_assign rfl) ?_
                        refine Kw.WL_nil ?_
                        refine hK25 _ _ ?_; clear hK25 K25
                        refine Kw.WC_ret ?_
                        refine Kw.QR_block ?_
                        refine Kw.QR_then ?_; clear hK2 K2
                        exact Kw.post_ret1 rfl rfl ⟨by rw [ck17]; rfl, HB⟩
                      ·
                        refine Kw.WL_v rfl rfl rfl (Kw.R_eqi (z := false) rfl rfl (decide_eq_false ck17)) ?_
                        refine Kw.WL_v rfl rfl rfl (Kw.R_assign rfl) ?_
                        refine Kw.WL_nil ?_
                        refine hK22 _ _ ?_; clear hK22 K22
                        refine Kw.WC_false rfl ?_
                        refine Kw.WC_skip ?_
                        refine Kw.QN_block ?_
                        refine hK2 _ _ ?_; clear hK2 K2
                        refine Kw.WC_seq (fun K26 hK26 => ?_)
                        refine Kw.WC_region [some 2] rfl ?_
                        refine Kw.WL_v rfl rfl rfl (Kw.R_assign rfl) ?_
                        refine Kw.WL_nil ?_
                        refine hK26 _ _ ?_; clear hK26 K26
                        refine Kw.WC_ret ?_
                        exact Kw.post_ret1 rfl rfl ⟨by rw [numK_none (by omega)]; rfl, HB⟩

set_option maxRecDepth 100000 in
set_option maxHeartbeats 4000000 in
theorem texts_c (k : Int) (w : World) : Calls Tryd.prog 32 #[.int .i64 k] w fun e w' => e = .returned (.bool (txtK k)) ∧ w' = w := by
  have HB : w = w := rfl
  refine Kw.enter Tryd.func32 rfl Tryd.ntmps32 rfl rfl ?_
  refine Kw.WC_seq (fun K1 hK1 => ?_)
  refine Kw.WC_region [some 2] rfl ?_
  refine Kw.WL_v rfl rfl rfl (Kw.R_assign rfl) ?_
  refine Kw.WL_nil ?_
  refine hK1 _ _ ?_; clear hK1 K1
  refine Kw.WC_seq (fun K2 hK2 => ?_)
  refine Kw.WC_region [some 3, some 4, some 5, some 6, some 7, some 8, some 9, some 10, some 11, some 12, some 2] rfl ?_
  refine Kw.WL_v rfl rfl rfl (Kw.R_move rfl) ?_
  by_cases ck4 : (k : Int) = 1
  ·
    refine Kw.WL_v rfl rfl rfl (Kw.R_eqi (z := true) rfl rfl (decide_eq_true ck4)) ?_
    refine Kw.WL_v rfl rfl rfl (Kw.R_move rfl) ?_
    refine Kw.WL_off rfl rfl rfl ?_
    refine Kw.WL_off rfl rfl rfl ?_
    refine Kw.WL_v rfl rfl rfl (Kw.R_pickt rfl rfl) ?_
    refine Kw.WL_v rfl rfl rfl (Kw.R_move rfl) ?_
    refine Kw.WL_off rfl rfl rfl ?_
    refine Kw.WL_off rfl rfl rfl ?_
    refine Kw.WL_v rfl rfl rfl (Kw.R_pickt rfl rfl) ?_
    refine Kw.WL_v rfl rfl rfl (Kw.R_assign rfl) ?_
    refine Kw.WL_nil ?_
    refine hK2 _ _ ?_; clear hK2 K2
    refine Kw.WC_sub (l' := [(2, .bool true)]) (Kw.Sub.cons rfl Kw.Sub.nil) ?_
    refine Kw.WC_ret ?_
    exact Kw.post_ret1 rfl rfl ⟨by rw [ck4]; rfl, HB⟩
  ·
    refine Kw.WL_v rfl rfl rfl (Kw.R_eqi (z := false) rfl rfl (decide_eq_false ck4)) ?_
    refine Kw.WL_v rfl rfl rfl (Kw.R_move rfl) ?_
    refine Kw.WL_v rfl rfl rfl (Kw.R_move rfl) ?_
    by_cases ck7 : (k : Int) = 9
    ·
      refine Kw.WL_v rfl rfl rfl (Kw.R_eqi (z := true) rfl rfl (decide_eq_true ck7)) ?_
      refine Kw.WL_v rfl rfl rfl (Kw.R_pickf rfl rfl) ?_
      refine Kw.WL_v rfl rfl rfl (Kw.R_move rfl) ?_
      refine Kw.WL_off rfl rfl rfl ?_
      refine Kw.WL_off rfl rfl rfl ?_
      refine Kw.WL_v rfl rfl rfl (Kw.R_pickt rfl rfl) ?_
      refine Kw.WL_v rfl rfl rfl (Kw.R_assign rfl) ?_
      refine Kw.WL_nil ?_
      refine hK2 _ _ ?_; clear hK2 K2
      refine Kw.WC_sub (l' := [(2, .bool true)]) (Kw.Sub.cons rfl Kw.Sub.nil) ?_
      refine Kw.WC_ret ?_
      exact Kw.post_ret1 rfl rfl ⟨by rw [ck7]; rfl, HB⟩
    ·
      refine Kw.WL_v rfl rfl rfl (Kw.R_eqi (z := false) rfl rfl (decide_eq_false ck7)) ?_
      refine Kw.WL_v rfl rfl rfl (Kw.R_pickf rfl rfl) ?_
      refine Kw.WL_v rfl rfl rfl (Kw.R_move rfl) ?_
      refine Kw.WL_v rfl rfl rfl (Kw.R_move rfl) ?_
      by_cases ck11 : (k : Int) = 13
      ·
        refine Kw.WL_v rfl rfl rfl (Kw.R_eqi (z := true) rfl rfl (decide_eq_true ck11)) ?_
        refine Kw.WL_v rfl rfl rfl (Kw.R_pickf rfl rfl) ?_
        refine Kw.WL_v rfl rfl rfl (Kw.R_assign rfl) ?_
        refine Kw.WL_nil ?_
        refine hK2 _ _ ?_; clear hK2 K2
        refine Kw.WC_sub (l' := [(2, .bool true)]) (Kw.Sub.cons rfl Kw.Sub.nil) ?_
        refine Kw.WC_ret ?_
        exact Kw.post_ret1 rfl rfl ⟨by rw [ck11]; rfl, HB⟩
      ·
        refine Kw.WL_v rfl rfl rfl (Kw.R_eqi (z := false) rfl rfl (decide_eq_false ck11)) ?_
        refine Kw.WL_v rfl rfl rfl (Kw.R_pickf rfl rfl) ?_
        refine Kw.WL_v rfl rfl rfl (Kw.R_assign rfl) ?_
        refine Kw.WL_nil ?_
        refine hK2 _ _ ?_; clear hK2 K2
        refine Kw.WC_sub (l' := [(2, .bool false)]) (Kw.Sub.cons rfl Kw.Sub.nil) ?_
        refine Kw.WC_ret ?_
        exact Kw.post_ret1 rfl rfl ⟨by rw [txtK_none (by omega)], HB⟩
theorem hexL_take {l : List UInt8} {i : Nat} (h : i < l.length) : bA (hexL (l.take i)) ++ bA [dg ((l[i]'h).toNat / 16)] ++ bA [dg ((l[i]'h).toNat % 16)] = bA (hexL (l.take (i + 1))) := by
  rw [bA_app, bA_app, take_snocL h, hexL_snoc, List.append_assoc]; rfl
theorem dg_dec : ∀ n, n < 10 → dg n = UInt8.ofNat (48 + n) := by decide +kernel
theorem itoa_small {n : Int} (h1 : 0 ≤ n) (h2 : n < 10) : bA [dg n.toNat] = bA (Lib.itoa n) := by
  unfold Lib.itoa
  rw [if_neg (by omega), Lib.decDigits, dif_pos (by omega), dg_dec _ (by omega)]
theorem itoa_smallneg {n : Int} (h1 : -10 < n) (h2 : n < 0) : ⟨#[45]⟩ ++ bA [dg (-n).toNat] = bA (Lib.itoa n) := by
  show bA [45] ++ _ = _
  unfold Lib.itoa
  rw [if_pos h2, Lib.decDigits, dif_pos (by omega), dg_dec _ (by omega), bA_app, show (-n).toNat = n.natAbs by omega]; rfl
theorem itoa_step {n : Int} (h : n ≤ -10 ∨ 10 ≤ n) : bA (Lib.itoa (n.tdiv 10)) ++ bA [dg (n.natAbs % 10)] = bA (Lib.itoa n) := by
  rw [bA_app]
  congr 1
  unfold Lib.itoa
  rcases h with h | h
  · have e : n.tdiv 10 = -((n.natAbs / 10 : Nat) : Int) := by
      obtain ⟨m, rfl⟩ : ∃ m : Nat, n = -(m : Int) := ⟨n.natAbs, by omega⟩
      rw [Int.neg_tdiv, Int.tdiv_eq_ediv_of_nonneg (by omega)]; omega
    rw [e, if_pos (by omega), if_pos (by omega), show (-((n.natAbs / 10 : Nat) : Int)).natAbs = n.natAbs / 10 by omega]
    conv => rhs; rw [Lib.decDigits, dif_neg (by omega)]
    rw [dg_dec _ (by omega)]; rfl
  · have e : n.tdiv 10 = ((n.toNat / 10 : Nat) : Int) := by
      rw [Int.tdiv_eq_ediv_of_nonneg (by omega)]; omega
    rw [e, if_neg (by omega), if_neg (by omega), show (((n.toNat / 10 : Nat) : Int)).toNat = n.toNat / 10 by omega]
    conv => rhs; rw [Lib.decDigits, dif_neg (by omega)]
    rw [dg_dec _ (by omega), show n.natAbs = n.toNat by omega]
theorem itoa_len {n : Int} (h : i64 n) : (bA (Lib.itoa n)).size ≤ 21 := by rw [bA_size, ← itoaL_eq h]; exact itoaL_len n
theorem tdiv_i64 {n : Int} (h : i64 n) : i64 (n.tdiv 10) ∧ (n ≤ -10 ∨ 10 ≤ n → (n.tdiv 10).natAbs < n.natAbs) := by
  unfold i64 at *
  rcases Int.lt_or_le n 0 with hn | hn
  · obtain ⟨m, rfl⟩ : ∃ m : Nat, n = -(m : Int) := ⟨n.natAbs, by omega⟩
    rw [Int.neg_tdiv, Int.tdiv_eq_ediv_of_nonneg (by omega)]
    exact ⟨by omega, fun _ => by omega⟩
  · rw [Int.tdiv_eq_ediv_of_nonneg hn]
    exact ⟨by omega, fun _ => by omega⟩
theorem tmod_abs {n : Int} : (n.tmod 10 < 0 → -(n.tmod 10) = ((n.natAbs % 10 : Nat) : Int)) ∧ (¬ n.tmod 10 < 0 → n.tmod 10 = ((n.natAbs % 10 : Nat) : Int)) ∧ -9 ≤ n.tmod 10 ∧ n.tmod 10 ≤ 9 := by
  rcases Int.lt_or_le n 0 with hn | hn
  · obtain ⟨m, rfl⟩ : ∃ m : Nat, n = -(m : Int) := ⟨n.natAbs, by omega⟩
    rw [Int.neg_tmod, Int.tmod_eq_emod_of_nonneg (by omega)]
    exact ⟨fun _ => by omega, fun _ => by omega, by omega, by omega⟩
  · rw [Int.tmod_eq_emod_of_nonneg hn]
    exact ⟨fun _ => by omega, fun _ => by omega, by omega, by omega⟩

set_option maxRecDepth 100000 in
set_option maxHeartbeats 4000000 in
theorem bytes_c (s : ByteArray) (hs : s.size ≤ 1000000000) (w : World) : Calls Tryd.prog 33 #[.string s] w fun e w' => e = .returned (.string (bA (hexL s.data.toList))) ∧ Below w.heap.size w w' := by
  have HB : Below w.heap.size w w := Below.refl _ _
  refine Kw.enter Tryd.func33 rfl Tryd.ntmps33 rfl rfl ?_
  refine Kw.WC_seq (fun K1 hK1 => ?_)
  refine Kw.WC_region [some 2] rfl ?_
  refine Kw.WL_v rfl rfl rfl (Kw.R_assign rfl) ?_
  refine Kw.WL_nil ?_
  refine hK1 _ _ ?_; clear hK1 K1
  refine Kw.WC_seq (fun K2 hK2 => ?_)
  refine Kw.WC_region [some 3] rfl ?_
  refine Kw.WL_v rfl rfl rfl (Kw.R_assign rfl) ?_
  refine Kw.WL_nil ?_
  refine hK2 _ _ ?_; clear hK2 K2
  refine Kw.WC_seq (fun K3 hK3 => ?_)
  refine Kw.WC_seq (fun K4 hK4 => ?_)
  refine Kw.WC_region [some 4] rfl ?_
  refine Kw.WL_v rfl rfl rfl (Kw.R_assign rfl) ?_
  refine Kw.WL_nil ?_
  refine hK4 _ _ ?_; clear hK4 K4
  refine Kw.WC_block ?_
  refine Kw.WC_loop (ι := Nat) (fun (i : Nat) (ww : World) => (i ≤ s.size) ∧ Below w.heap.size w ww) (fun (i : Nat) => [(0, .string s), (3, .string (bA (hexL (s.data.toList.take i)))), (4, .int .i64 (i : Int))]) (fun (i : Nat) => s.size - i) 0 ⟨Nat.zero_le _, HB⟩ (Kw.Sub.cons rfl (Kw.Sub.cons rfl (Kw.Sub.cons rfl Kw.Sub.nil))) ?_
  clear HB
  rintro i w5 ⟨hi, HB⟩
  refine Kw.WC_seq (fun K6 hK6 => ?_)
  refine Kw.WC_seq (fun K7 hK7 => ?_)
  refine Kw.WC_region [some 5, some 6, some 7, some 8] rfl ?_
  refine Kw.WL_v rfl rfl rfl (Kw.R_move rfl) ?_
  refine Kw.WL_v rfl rfl rfl (Kw.R_move rfl) ?_
  refine Kw.WL_v rfl rfl rfl (Kw.R_lens Tryd.underlying9 rfl) ?_
  by_cases c8 : (i : Int) < (s.size : Int)
  ·
    refine Kw.WL_v rfl rfl rfl (Kw.R_lss (z := true) rfl rfl (decide_eq_true c8)) ?_
    have hi3 : i < s.data.toList.length := by rw [size_list]; omega
    obtain ⟨y, hy⟩ : ∃ y, y = s.data.toList[i]'hi3 := ⟨_, rfl⟩
    have hy8 := UInt8.toNat_lt y
    have htk := hexL_take hi3; rw [← hy] at htk
    have hlk := hexL_len (s.data.toList.take i); rw [List.length_take] at hlk
    refine Kw.WL_nil ?_
    refine hK7 _ _ ?_; clear hK7 K7
    refine Kw.WC_true rfl ?_
    refine Kw.WC_skip ?_
    refine hK6 _ _ ?_; clear hK6 K6
    refine Kw.WC_seq (fun K9 hK9 => ?_)
    refine Kw.WC_block ?_
    refine Kw.WC_sched (fun ww => True ∧ True) [(0, true), (1, true), (2, true), (3, true), (4, true), (5, true), (8, true), (9, true), (10, true), (11, true), (12, true), (6, false), (7, true), (13, false), (14, true), (15, true)] [some 11, some 12, some 13, some 14, some 15, some 16, some 17, some 18, some 19, some 20, some 21, some 22, some 23, some 24, some 25, some 3] rfl (by kernel_rfl) rfl (by kernel_rfl) ?_
    obtain ⟨w10, hww10⟩ : ∃ x : World, x = Go.World.drew w5 := ⟨_, rfl⟩
    rw [← hww10]
    replace HB : Below w.heap.size w w10 := by rw [hww10]; exact HB.drew
    clear hww10
    have hS : True ∧ True := ⟨trivial, trivial⟩
    refine Kw.WX_take rfl rfl rfl rfl (fun _ _ _ h => h) hS (fun _ ⟨_, _⟩ => Kw.R_move rfl) ?_
    refine Kw.WX_take rfl rfl rfl rfl (fun _ _ _ h => h) hS (fun _ ⟨_, _⟩ => Kw.R_move rfl) ?_
    refine Kw.WX_take rfl rfl rfl rfl (fun _ _ _ h => h) hS (fun _ ⟨_, _⟩ => Kw.R_move rfl) ?_
    refine Kw.WX_take rfl rfl rfl rfl (fun _ _ _ h => h) hS (fun _ ⟨_, _⟩ => Kw.R_indexb (i := i) (c := ((y.toNat : Nat) : Int)) Tryd.underlying9 rfl rfl (by rw [← size_list]; exact hi3) (by rw [byt_list s i hi3, ← hy])) ?_
    refine Kw.WX_take rfl rfl rfl rfl (fun _ _ _ h => h) hS (fun _ ⟨_, _⟩ => Kw.R_conv (c := ((y.toNat : Nat) : Int)) Tryd.underlying5 Tryd.underlying3 rfl (Kw.wrap_i64 (by omega))) ?_
    refine Kw.WX_take rfl rfl rfl rfl (fun _ _ _ h => h) hS (fun _ ⟨_, _⟩ => Kw.R_quo (c := ((y.toNat / 16 : Nat) : Int)) rfl rfl (by omega) (by rw [Kw.tdiv_pos (by omega), Kw.wrap_i64 (by omega)]; omega)) ?_
    refine Kw.WX_take rfl rfl rfl rfl (fun _ _ _ h => h) hS (fun _ ⟨_, _⟩ => Kw.R_move rfl) ?_
    refine Kw.WX_take rfl rfl rfl rfl (fun _ _ _ h => h) hS (fun _ ⟨_, _⟩ => Kw.R_move rfl) ?_
    refine Kw.WX_take rfl rfl rfl rfl (fun _ _ _ h => h) hS (fun _ ⟨_, _⟩ => Kw.R_indexb (i := i) (c := ((y.toNat : Nat) : Int)) Tryd.underlying9 rfl rfl (by rw [← size_list]; exact hi3) (by rw [byt_list s i hi3, ← hy])) ?_
    refine Kw.WX_take rfl rfl rfl rfl (fun _ _ _ h => h) hS (fun _ ⟨_, _⟩ => Kw.R_conv (c := ((y.toNat : Nat) : Int)) Tryd.underlying5 Tryd.underlying3 rfl (Kw.wrap_i64 (by omega))) ?_
    refine Kw.WX_take rfl rfl rfl rfl (fun _ _ _ h => h) hS (fun _ ⟨_, _⟩ => Kw.R_rem (c := ((y.toNat % 16 : Nat) : Int)) rfl rfl (by omega) (by rw [Kw.tmod_pos (by omega)]; omega)) ?_
    refine Kw.WX_callc rfl rfl rfl rfl rfl F.cl45 rfl (digit_c (y.toNat / 16) (by omega) w10) ?_; intro w11 bw11
    rw [bw11]; clear bw11
    refine ⟨hS, ?_⟩
    refine Kw.WX_take rfl rfl rfl rfl (fun _ _ _ h => h) hS (fun _ ⟨_, _⟩ => Kw.R_adds (r := (bA (hexL (s.data.toList.take i)) ++ bA [dg (y.toNat / 16)])) rfl rfl (by rw [bA_size, bA_size, List.length_singleton]; omega) (rfl)) ?_
    refine Kw.WX_callc rfl rfl rfl rfl rfl F.cl45 rfl (digit_c (y.toNat % 16) (by omega) w10) ?_; intro w12 bw12
    rw [bw12]; clear bw12
    refine ⟨hS, ?_⟩
    refine Kw.WX_take rfl rfl rfl rfl (fun _ _ _ h => h) hS (fun _ ⟨_, _⟩ => Kw.R_adds (r := (bA (hexL (s.data.toList.take (i + 1))))) rfl rfl (by rw [bA_app, bA_size, bA_size, List.length_append, List.length_singleton, List.length_singleton]; omega) (htk)) ?_
    refine Kw.WX_take rfl rfl rfl rfl (fun _ _ _ h => h) hS (fun _ ⟨_, _⟩ => Kw.R_assign rfl) ?_
    refine Kw.WX_nil ?_
    clear hS
    refine Kw.QN_block ?_
    refine hK9 _ _ ?_; clear hK9 K9
    refine Kw.WC_sub (l' := [(0, .string s), (3, .string (bA (hexL (s.data.toList.take (i + 1))))), (4, .int .i64 (i : Int))]) (Kw.Sub.cons rfl (Kw.Sub.cons rfl (Kw.Sub.cons rfl Kw.Sub.nil))) ?_
    refine Kw.WC_region [some 9, some 10, some 4] rfl ?_
    refine Kw.WL_v rfl rfl rfl (Kw.R_move rfl) ?_
    refine Kw.WL_v rfl rfl rfl (Kw.R_add (c := ((i + 1 : Nat) : Int)) rfl rfl (by rw [Kw.wrap_i64 (by omega)]; omega)) ?_
    refine Kw.WL_v rfl rfl rfl (Kw.R_assign rfl) ?_
    refine Kw.WL_nil ?_
    refine Kw.QN_round (i + 1) ⟨by omega, HB⟩ (by omega) (Kw.Sub.cons rfl (Kw.Sub.cons rfl (Kw.Sub.cons rfl Kw.Sub.nil)))
  ·
    refine Kw.WL_v rfl rfl rfl (Kw.R_lss (z := false) rfl rfl (decide_eq_false c8)) ?_
    obtain rfl : i = s.data.toList.length := by rw [size_list]; omega
    rw [List.take_length]
    refine Kw.WL_nil ?_
    refine hK7 _ _ ?_; clear hK7 K7
    refine Kw.WC_false rfl ?_
    refine Kw.WC_exit ?_
    refine Kw.QE_then ?_; clear hK6 K6
    refine Kw.QE_then ?_
    refine Kw.QE_here ?_
    refine hK3 _ _ ?_; clear hK3 K3
    refine Kw.WC_sub (l' := [(3, .string (bA (hexL s.data.toList)))]) (Kw.Sub.cons rfl Kw.Sub.nil) ?_
    refine Kw.WC_seq (fun K13 hK13 => ?_)
    refine Kw.WC_region [some 26, some 2] rfl ?_
    refine Kw.WL_v rfl rfl rfl (Kw.R_move rfl) ?_
    refine Kw.WL_v rfl rfl rfl (Kw.R_assign rfl) ?_
    refine Kw.WL_nil ?_
    refine hK13 _ _ ?_; clear hK13 K13
    refine Kw.WC_ret ?_
    exact Kw.post_ret1 rfl rfl ⟨rfl, HB⟩

set_option maxRecDepth 100000 in
set_option maxHeartbeats 4000000 in
theorem decimal_c : ∀ (k : Nat) (n : Int), n.natAbs < k → i64 n → ∀ w : World, Calls Tryd.prog 31 #[.int .i64 n] w fun e w' => e = .returned (.string (bA (Lib.itoa n))) ∧ w' = w := by
  intro k
  induction k with
  | zero => intro n h; omega
  | succ k ih =>
  intro n hk hn w
  have hn2 := hn
  unfold i64 at hn2
  have HB : w = w := rfl
  refine Kw.enter Tryd.func31 rfl Tryd.ntmps31 rfl rfl ?_
  refine Kw.WC_seq (fun K1 hK1 => ?_)
  refine Kw.WC_region [some 2] rfl ?_
  refine Kw.WL_v rfl rfl rfl (Kw.R_assign rfl) ?_
  refine Kw.WL_nil ?_
  refine hK1 _ _ ?_; clear hK1 K1
  refine Kw.WC_seq (fun K2 hK2 => ?_)
  refine Kw.WC_seq (fun K3 hK3 => ?_)
  refine Kw.WC_region [some 4, some 5, some 6, some 7, some 8, some 9] rfl ?_
  refine Kw.WL_v rfl rfl rfl (Kw.R_move rfl) ?_
  by_cases ca : (-10 : Int) < n
  ·
    refine Kw.WL_v rfl rfl rfl (Kw.R_gtr (z := true) rfl rfl (decide_eq_true ca)) ?_
    refine Kw.WL_v rfl rfl rfl (Kw.R_move rfl) ?_
    refine Kw.WL_v rfl rfl rfl (Kw.R_move rfl) ?_
    by_cases cb : n < (0 : Int)
    ·
      refine Kw.WL_v rfl rfl rfl (Kw.R_lss (z := true) rfl rfl (decide_eq_true cb)) ?_
      refine Kw.WL_v rfl rfl rfl (Kw.R_pickt rfl rfl) ?_
      refine Kw.WL_nil ?_
      refine hK3 _ _ ?_; clear hK3 K3
      refine Kw.WC_sub (l' := [(0, .int .i64 n), (9, .bool true)]) (Kw.Sub.cons rfl (Kw.Sub.cons rfl Kw.Sub.nil)) ?_
      refine Kw.WC_true rfl ?_
      refine Kw.WC_seq (fun K4 hK4 => ?_)
      refine Kw.WC_region [some 10, some 11, some 12, some 13, some 2] rfl ?_
      refine Kw.WL_v rfl rfl rfl (Kw.R_move rfl) ?_
      refine Kw.WL_v rfl rfl rfl (Kw.R_neg (c := (((-n).toNat : Nat) : Int)) rfl (by rw [Kw.wrap_i64 (by omega)]; omega)) ?_
      refine Kw.WL_callc rfl rfl rfl rfl F.cl45 rfl (digit_c (-n).toNat (by omega) w) ?_; intro ww hww; rw [hww]; clear hww ww
      refine Kw.WL_v rfl rfl rfl (Kw.R_adds (r := (bA (Lib.itoa n))) rfl rfl (by rw [bA_size]; show 1 + 1 ≤ _; omega) (itoa_smallneg ca cb)) ?_
      refine Kw.WL_v rfl rfl rfl (Kw.R_assign rfl) ?_
      refine Kw.WL_nil ?_
      refine hK4 _ _ ?_; clear hK4 K4
      refine Kw.WC_sub (l' := [(2, .string (bA (Lib.itoa n)))]) (Kw.Sub.cons rfl Kw.Sub.nil) ?_
      refine Kw.WC_ret ?_
      refine Kw.QR_then ?_; clear hK2 K2
      exact Kw.post_ret1 rfl rfl ⟨rfl, HB⟩
    ·
      refine Kw.WL_v rfl rfl rfl (Kw.R_lss (z := false) rfl rfl (decide_eq_false cb)) ?_
      refine Kw.WL_v rfl rfl rfl (Kw.R_pickt rfl rfl) ?_
      refine Kw.WL_nil ?_
      refine hK3 _ _ ?_; clear hK3 K3
      refine Kw.WC_sub (l' := [(0, .int .i64 n), (9, .bool false)]) (Kw.Sub.cons rfl (Kw.Sub.cons rfl Kw.Sub.nil)) ?_
      refine Kw.WC_false rfl ?_
      refine Kw.WC_skip ?_
      refine hK2 _ _ ?_; clear hK2 K2
      refine Kw.WC_seq (fun K5 hK5 => ?_)
      refine Kw.WC_seq (fun K6 hK6 => ?_)
      refine Kw.WC_region [some 14, some 15, some 16, some 17, some 18, some 19] rfl ?_
      refine Kw.WL_v rfl rfl rfl (Kw.R_move rfl) ?_
      by_cases cc : (0 : Int) ≤ n
      ·
        refine Kw.WL_v rfl rfl rfl (Kw.R_geq (z := true) rfl rfl (decide_eq_true cc)) ?_
        refine Kw.WL_v rfl rfl rfl (Kw.R_move rfl) ?_
        refine Kw.WL_v rfl rfl rfl (Kw.R_move rfl) ?_
        by_cases cd : n < (10 : Int)
        ·
          refine Kw.WL_v rfl rfl rfl (Kw.R_lss (z := true) rfl rfl (decide_eq_true cd)) ?_
          refine Kw.WL_v rfl rfl rfl (Kw.R_pickt rfl rfl) ?_
          refine Kw.WL_nil ?_
          refine hK6 _ _ ?_; clear hK6 K6
          refine Kw.WC_sub (l' := [(0, .int .i64 n), (19, .bool true)]) (Kw.Sub.cons rfl (Kw.Sub.cons rfl Kw.Sub.nil)) ?_
          refine Kw.WC_true rfl ?_
          refine Kw.WC_seq (fun K7 hK7 => ?_)
          refine Kw.WC_region [some 20, some 21, some 2] rfl ?_
          refine Kw.WL_v rfl rfl rfl (Kw.R_move rfl) ?_
          have hnn : (((n.toNat : Nat) : Int)) = n := by omega
          refine Kw.WL_callc rfl rfl rfl rfl F.cl45 rfl ((by have := digit_c n.toNat (by omega) w; rw [hnn] at this; exact this)) ?_; intro ww hww; rw [hww]; clear hww ww
          refine Kw.WL_v rfl rfl rfl (Kw.R_assign rfl) ?_
          refine Kw.WL_nil ?_
          refine hK7 _ _ ?_; clear hK7 K7
          refine Kw.WC_ret ?_
          refine Kw.QR_then ?_; clear hK5 K5
          exact Kw.post_ret1 rfl rfl ⟨by rw [itoa_small cc cd], HB⟩
        ·
          refine Kw.WL_v rfl rfl rfl (Kw.R_lss (z := false) rfl rfl (decide_eq_false cd)) ?_
          refine Kw.WL_v rfl rfl rfl (Kw.R_pickt rfl rfl) ?_
          refine Kw.WL_nil ?_
          refine hK6 _ _ ?_; clear hK6 K6
          refine Kw.WC_sub (l' := [(0, .int .i64 n), (19, .bool false)]) (Kw.Sub.cons rfl (Kw.Sub.cons rfl Kw.Sub.nil)) ?_
          refine Kw.WC_false rfl ?_
          refine Kw.WC_skip ?_
          refine hK5 _ _ ?_; clear hK5 K5
          refine Kw.WC_seq (fun K8 hK8 => ?_)
          refine Kw.WC_region [some 22, some 23, some 3] rfl ?_
          refine Kw.WL_v rfl rfl rfl (Kw.R_move rfl) ?_
          have hnn : n ≤ -10 ∨ 10 ≤ n := by omega
          have hmm := tmod_abs (n := n)
          have hdd := tdiv_i64 hn
          have hlen := itoa_len hdd.1
          refine Kw.WL_v rfl rfl rfl (Kw.R_rem (c := (n.tmod 10)) rfl rfl (by decide) (rfl)) ?_
          refine Kw.WL_v rfl rfl rfl (Kw.R_assign rfl) ?_
          refine Kw.WL_nil ?_
          refine hK8 _ _ ?_; clear hK8 K8
          refine Kw.WC_seq (fun K9 hK9 => ?_)
          refine Kw.WC_seq (fun K10 hK10 => ?_)
          refine Kw.WC_region [some 24, some 25] rfl ?_
          refine Kw.WL_v rfl rfl rfl (Kw.R_move rfl) ?_
          by_cases ce : n.tmod 10 < (0 : Int)
          ·
            refine Kw.WL_v rfl rfl rfl (Kw.R_lss (z := true) rfl rfl (decide_eq_true ce)) ?_
            refine Kw.WL_nil ?_
            refine hK10 _ _ ?_; clear hK10 K10
            refine Kw.WC_true rfl ?_
            refine Kw.WC_region [some 26, some 27, some 3] rfl ?_
            refine Kw.WL_v rfl rfl rfl (Kw.R_move rfl) ?_
            refine Kw.WL_v rfl rfl rfl (Kw.R_neg (c := ((n.natAbs % 10 : Nat) : Int)) rfl (by rw [Kw.wrap_i64 (by omega)]; have := hmm.1 ce; omega)) ?_
            refine Kw.WL_v rfl rfl rfl (Kw.R_assign rfl) ?_
            refine Kw.WL_nil ?_
            refine hK9 _ _ ?_; clear hK9 K9
            refine Kw.WC_sub (l' := [(0, .int .i64 n), (3, .int .i64 ((n.natAbs % 10 : Nat) : Int))]) (Kw.Sub.cons rfl (Kw.Sub.cons rfl Kw.Sub.nil)) ?_
            refine Kw.WC_seq (fun K11 hK11 => ?_)
            refine Kw.WC_region [some 28, some 29, some 30, some 31, some 32, some 33, some 2] rfl ?_
            refine Kw.WL_v rfl rfl rfl (Kw.R_move rfl) ?_
            refine Kw.WL_v rfl rfl rfl (Kw.R_quo (c := (n.tdiv 10)) rfl rfl (by decide) (by have := hdd.1; unfold i64 at this; rw [Kw.wrap_i64 (by omega)])) ?_
            refine Kw.WL_callc rfl rfl rfl rfl F.cl31 rfl (ih (n.tdiv 10) (by have := hdd.2 hnn; omega) hdd.1 w) ?_; intro ww hww; rw [hww]; clear hww ww
            refine Kw.WL_v rfl rfl rfl (Kw.R_move rfl) ?_
            refine Kw.WL_callc rfl rfl rfl rfl F.cl45 rfl (digit_c (n.natAbs % 10) (by omega) w) ?_; intro ww hww; rw [hww]; clear hww ww
            refine Kw.WL_v rfl rfl rfl (Kw.R_adds (r := (bA (Lib.itoa n))) rfl rfl (by rw [show (bA [dg (n.natAbs % 10)]).size = 1 by rw [bA_size]; rfl]; omega) (itoa_step hnn)) ?_
            refine Kw.WL_v rfl rfl rfl (Kw.R_assign rfl) ?_
            refine Kw.WL_nil ?_
            refine hK11 _ _ ?_; clear hK11 K11
            refine Kw.WC_sub (l' := [(2, .string (bA (Lib.itoa n)))]) (Kw.Sub.cons rfl Kw.Sub.nil) ?_
            refine Kw.WC_ret ?_
            exact Kw.post_ret1 rfl rfl ⟨rfl, HB⟩
          ·
            refine Kw.WL_v rfl rfl rfl (Kw.R_lss (z := false) rfl rfl (decide_eq_false ce)) ?_
            rw [hmm.2.1 ce]
            refine Kw.WL_nil ?_
            refine hK10 _ _ ?_; clear hK10 K10
            refine Kw.WC_false rfl ?_
            refine Kw.WC_skip ?_
            refine hK9 _ _ ?_; clear hK9 K9
            refine Kw.WC_seq (fun K12 hK12 => ?_)
            refine Kw.WC_region [some 28, some 29, some 30, some 31, some 32, some 33, some 2] rfl ?_
            refine Kw.WL_v rfl rfl rfl (Kw.R_move rfl) ?_
            refine Kw.WL_v rfl rfl rfl (Kw.R_quo (c := (n.tdiv 10)) rfl rfl (by decide) (by have := hdd.1; unfold i64 at this; rw [Kw.wrap_i64 (by omega)])) ?_
            refine Kw.WL_callc rfl rfl rfl rfl F.cl31 rfl (ih (n.tdiv 10) (by have := hdd.2 hnn; omega) hdd.1 w) ?_; intro ww hww; rw [hww]; clear hww ww
            refine Kw.WL_v rfl rfl rfl (Kw.R_move rfl) ?_
            refine Kw.WL_callc rfl rfl rfl rfl F.cl45 rfl (digit_c (n.natAbs % 10) (by omega) w) ?_; intro ww hww; rw [hww]; clear hww ww
            refine Kw.WL_v rfl rfl rfl (Kw.R_adds (r := (bA (Lib.itoa n))) rfl rfl (by rw [show (bA [dg (n.natAbs % 10)]).size = 1 by rw [bA_size]; rfl]; omega) (itoa_step hnn)) ?_
            refine Kw.WL_v rfl rfl rfl (Kw.R_assign rfl) ?_
            refine Kw.WL_nil ?_
            refine hK12 _ _ ?_; clear hK12 K12
            refine Kw.WC_sub (l' := [(2, .string (bA (Lib.itoa n)))]) (Kw.Sub.cons rfl Kw.Sub.nil) ?_
            refine Kw.WC_ret ?_
            exact Kw.post_ret1 rfl rfl ⟨rfl, HB⟩
      ·
        refine Kw.WL_v rfl rfl rfl (Kw.R_geq (z := false) rfl rfl (decide_eq_false cc)) ?_
        refine Kw.WL_v rfl rfl rfl (Kw.R_move rfl) ?_
        refine Kw.WL_off rfl rfl rfl ?_
        refine Kw.WL_off rfl rfl rfl ?_
        refine Kw.WL_v rfl rfl rfl (Kw.R_pickf rfl rfl) ?_
        refine Kw.WL_nil ?_
        refine hK6 _ _ ?_; clear hK6 K6
        refine Kw.WC_sub (l' := [(0, .int .i64 n), (19, .bool false)]) (Kw.Sub.cons rfl (Kw.Sub.cons rfl Kw.Sub.nil)) ?_
        refine Kw.WC_false rfl ?_
        refine Kw.WC_skip ?_
        refine hK5 _ _ ?_; clear hK5 K5
        refine Kw.WC_seq (fun K13 hK13 => ?_)
        refine Kw.WC_region [some 22, some 23, some 3] rfl ?_
        refine Kw.WL_v rfl rfl rfl (Kw.R_move rfl) ?_
        have hnn : n ≤ -10 ∨ 10 ≤ n := by omega
        have hmm := tmod_abs (n := n)
        have hdd := tdiv_i64 hn
        have hlen := itoa_len hdd.1
        refine Kw.WL_v rfl rfl rfl (Kw.R_rem (c := (n.tmod 10)) rfl rfl (by decide) (rfl)) ?_
        refine Kw.WL_v rfl rfl rfl (Kw.R_assign rfl) ?_
        refine Kw.WL_nil ?_
        refine hK13 _ _ ?_; clear hK13 K13
        refine Kw.WC_seq (fun K14 hK14 => ?_)
        refine Kw.WC_seq (fun K15 hK15 => ?_)
        refine Kw.WC_region [some 24, some 25] rfl ?_
        refine Kw.WL_v rfl rfl rfl (Kw.R_move rfl) ?_
        by_cases ce : n.tmod 10 < (0 : Int)
        ·
          refine Kw.WL_v rfl rfl rfl (Kw.R_lss (z := true) rfl rfl (decide_eq_true ce)) ?_
          refine Kw.WL_nil ?_
          refine hK15 _ _ ?_; clear hK15 K15
          refine Kw.WC_true rfl ?_
          refine Kw.WC_region [some 26, some 27, some 3] rfl ?_
          refine Kw.WL_v rfl rfl rfl (Kw.R_move rfl) ?_
          refine Kw.WL_v rfl rfl rfl (Kw.R_neg (c := ((n.natAbs % 10 : Nat) : Int)) rfl (by rw [Kw.wrap_i64 (by omega)]; have := hmm.1 ce; omega)) ?_
          refine Kw.WL_v rfl rfl rfl (Kw.R_assign rfl) ?_
          refine Kw.WL_nil ?_
          refine hK14 _ _ ?_; clear hK14 K14
          refine Kw.WC_sub (l' := [(0, .int .i64 n), (3, .int .i64 ((n.natAbs % 10 : Nat) : Int))]) (Kw.Sub.cons rfl (Kw.Sub.cons rfl Kw.Sub.nil)) ?_
          refine Kw.WC_seq (fun K16 hK16 => ?_)
          refine Kw.WC_region [some 28, some 29, some 30, some 31, some 32, some 33, some 2] rfl ?_
          refine Kw.WL_v rfl rfl rfl (Kw.R_move rfl) ?_
          refine Kw.WL_v rfl rfl rfl (Kw.R_quo (c := (n.tdiv 10)) rfl rfl (by decide) (by have := hdd.1; unfold i64 at this; rw [Kw.wrap_i64 (by omega)])) ?_
          refine Kw.WL_callc rfl rfl rfl rfl F.cl31 rfl (ih (n.tdiv 10) (by have := hdd.2 hnn; omega) hdd.1 w) ?_; intro ww hww; rw [hww]; clear hww ww
          refine Kw.WL_v rfl rfl rfl (Kw.R_move rfl) ?_
          refine Kw.WL_callc rfl rfl rfl rfl F.cl45 rfl (digit_c (n.natAbs % 10) (by omega) w) ?_; intro ww hww; rw [hww]; clear hww ww
          refine Kw.WL_v rfl rfl rfl (Kw.R_adds (r := (bA (Lib.itoa n))) rfl rfl (by rw [show (bA [dg (n.natAbs % 10)]).size = 1 by rw [bA_size]; rfl]; omega) (itoa_step hnn)) ?_
          refine Kw.WL_v rfl rfl rfl (Kw.R_assign rfl) ?_
          refine Kw.WL_nil ?_
          refine hK16 _ _ ?_; clear hK16 K16
          refine Kw.WC_sub (l' := [(2, .string (bA (Lib.itoa n)))]) (Kw.Sub.cons rfl Kw.Sub.nil) ?_
          refine Kw.WC_ret ?_
          exact Kw.post_ret1 rfl rfl ⟨rfl, HB⟩
        ·
          refine Kw.WL_v rfl rfl rfl (Kw.R_lss (z := false) rfl rfl (decide_eq_false ce)) ?_
          rw [hmm.2.1 ce]
          refine Kw.WL_nil ?_
          refine hK15 _ _ ?_; clear hK15 K15
          refine Kw.WC_false rfl ?_
          refine Kw.WC_skip ?_
          refine hK14 _ _ ?_; clear hK14 K14
          refine Kw.WC_seq (fun K17 hK17 => ?_)
          refine Kw.WC_region [some 28, some 29, some 30, some 31, some 32, some 33, some 2] rfl ?_
          refine Kw.WL_v rfl rfl rfl (Kw.R_move rfl) ?_
          refine Kw.WL_v rfl rfl rfl (Kw.R_quo (c := (n.tdiv 10)) rfl rfl (by decide) (by have := hdd.1; unfold i64 at this; rw [Kw.wrap_i64 (by omega)])) ?_
          refine Kw.WL_callc rfl rfl rfl rfl F.cl31 rfl (ih (n.tdiv 10) (by have := hdd.2 hnn; omega) hdd.1 w) ?_; intro ww hww; rw [hww]; clear hww ww
          refine Kw.WL_v rfl rfl rfl (Kw.R_move rfl) ?_
          refine Kw.WL_callc rfl rfl rfl rfl F.cl45 rfl (digit_c (n.natAbs % 10) (by omega) w) ?_; intro ww hww; rw [hww]; clear hww ww
          refine Kw.WL_v rfl rfl rfl (Kw.R_adds (r := (bA (Lib.itoa n))) rfl rfl (by rw [show (bA [dg (n.natAbs % 10)]).size = 1 by rw [bA_size]; rfl]; omega) (itoa_step hnn)) ?_
          refine Kw.WL_v rfl rfl rfl (Kw.R_assign rfl) ?_
          refine Kw.WL_nil ?_
          refine hK17 _ _ ?_; clear hK17 K17
          refine Kw.WC_sub (l' := [(2, .string (bA (Lib.itoa n)))]) (Kw.Sub.cons rfl Kw.Sub.nil) ?_
          refine Kw.WC_ret ?_
          exact Kw.post_ret1 rfl rfl ⟨rfl, HB⟩
  ·
    refine Kw.WL_v rfl rfl rfl (Kw.R_gtr (z := false) rfl rfl (decide_eq_false ca)) ?_
    refine Kw.WL_v rfl rfl rfl (Kw.R_move rfl) ?_
    refine Kw.WL_off rfl rfl rfl ?_
    refine Kw.WL_off rfl rfl rfl ?_
    refine Kw.WL_v rfl rfl rfl (Kw.R_pickf rfl rfl) ?_
    refine Kw.WL_nil ?_
    refine hK3 _ _ ?_; clear hK3 K3
    refine Kw.WC_sub (l' := [(0, .int .i64 n), (9, .bool false)]) (Kw.Sub.cons rfl (Kw.Sub.cons rfl Kw.Sub.nil)) ?_
    refine Kw.WC_false rfl ?_
    refine Kw.WC_skip ?_
    refine hK2 _ _ ?_; clear hK2 K2
    refine Kw.WC_seq (fun K18 hK18 => ?_)
    refine Kw.WC_seq (fun K19 hK19 => ?_)
    refine Kw.WC_region [some 14, some 15, some 16, some 17, some 18, some 19] rfl ?_
    refine Kw.WL_v rfl rfl rfl (Kw.R_move rfl) ?_
    by_cases cc : (0 : Int) ≤ n
    ·
      refine Kw.WL_v rfl rfl rfl (Kw.R_geq (z := true) rfl rfl (decide_eq_true cc)) ?_
      refine Kw.WL_v rfl rfl rfl (Kw.R_move rfl) ?_
      refine Kw.WL_v rfl rfl rfl (Kw.R_move rfl) ?_
      by_cases cd : n < (10 : Int)
      ·
        refine Kw.WL_v rfl rfl rfl (Kw.R_lss (z := true) rfl rfl (decide_eq_true cd)) ?_
        refine Kw.WL_v rfl rfl rfl (Kw.R_pickt rfl rfl) ?_
        refine Kw.WL_nil ?_
        refine hK19 _ _ ?_; clear hK19 K19
        refine Kw.WC_sub (l' := [(0, .int .i64 n), (19, .bool true)]) (Kw.Sub.cons rfl (Kw.Sub.cons rfl Kw.Sub.nil)) ?_
        refine Kw.WC_true rfl ?_
        refine Kw.WC_seq (fun K20 hK20 => ?_)
        refine Kw.WC_region [some 20, some 21, some 2] rfl ?_
        refine Kw.WL_v rfl rfl rfl (Kw.R_move rfl) ?_
        have hnn : (((n.toNat : Nat) : Int)) = n := by omega
        refine Kw.WL_callc rfl rfl rfl rfl F.cl45 rfl ((by have := digit_c n.toNat (by omega) w; rw [hnn] at this; exact this)) ?_; intro ww hww; rw [hww]; clear hww ww
        refine Kw.WL_v rfl rfl rfl (Kw.R_assign rfl) ?_
        refine Kw.WL_nil ?_
        refine hK20 _ _ ?_; clear hK20 K20
        refine Kw.WC_ret ?_
        refine Kw.QR_then ?_; clear hK18 K18
        exact Kw.post_ret1 rfl rfl ⟨by rw [itoa_small cc cd], HB⟩
      ·
        refine Kw.WL_v rfl rfl rfl (Kw.R_lss (z := false) rfl rfl (decide_eq_false cd)) ?_
        refine Kw.WL_v rfl rfl rfl (Kw.R_pickt rfl rfl) ?_
        refine Kw.WL_nil ?_
        refine hK19 _ _ ?_; clear hK19 K19
        refine Kw.WC_sub (l' := [(0, .int .i64 n), (19, .bool false)]) (Kw.Sub.cons rfl (Kw.Sub.cons rfl Kw.Sub.nil)) ?_
        refine Kw.WC_false rfl ?_
        refine Kw.WC_skip ?_
        refine hK18 _ _ ?_; clear hK18 K18
        refine Kw.WC_seq (fun K21 hK21 => ?_)
        refine Kw.WC_region [some 22, some 23, some 3] rfl ?_
        refine Kw.WL_v rfl rfl rfl (Kw.R_move rfl) ?_
        have hnn : n ≤ -10 ∨ 10 ≤ n := by omega
        have hmm := tmod_abs (n := n)
        have hdd := tdiv_i64 hn
        have hlen := itoa_len hdd.1
        refine Kw.WL_v rfl rfl rfl (Kw.R_rem (c := (n.tmod 10)) rfl rfl (by decide) (rfl)) ?_
        refine Kw.WL_v rfl rfl rfl (Kw.R_assign rfl) ?_
        refine Kw.WL_nil ?_
        refine hK21 _ _ ?_; clear hK21 K21
        refine Kw.WC_seq (fun K22 hK22 => ?_)
        refine Kw.WC_seq (fun K23 hK23 => ?_)
        refine Kw.WC_region [some 24, some 25] rfl ?_
        refine Kw.WL_v rfl rfl rfl (Kw.R_move rfl) ?_
        by_cases ce : n.tmod 10 < (0 : Int)
        ·
          refine Kw.WL_v rfl rfl rfl (Kw.R_lss (z := true) rfl rfl (decide_eq_true ce)) ?_
          refine Kw.WL_nil ?_
          refine hK23 _ _ ?_; clear hK23 K23
          refine Kw.WC_true rfl ?_
          refine Kw.WC_region [some 26, some 27, some 3] rfl ?_
          refine Kw.WL_v rfl rfl rfl (Kw.R_move rfl) ?_
          refine Kw.WL_v rfl rfl rfl (Kw.R_neg (c := ((n.natAbs % 10 : Nat) : Int)) rfl (by rw [Kw.wrap_i64 (by omega)]; have := hmm.1 ce; omega)) ?_
          refine Kw.WL_v rfl rfl rfl (Kw.R_assign rfl) ?_
          refine Kw.WL_nil ?_
          refine hK22 _ _ ?_; clear hK22 K22
          refine Kw.WC_sub (l' := [(0, .int .i64 n), (3, .int .i64 ((n.natAbs % 10 : Nat) : Int))]) (Kw.Sub.cons rfl (Kw.Sub.cons rfl Kw.Sub.nil)) ?_
          refine Kw.WC_seq (fun K24 hK24 => ?_)
          refine Kw.WC_region [some 28, some 29, some 30, some 31, some 32, some 33, some 2] rfl ?_
          refine Kw.WL_v rfl rfl rfl (Kw.R_move rfl) ?_
          refine Kw.WL_v rfl rfl rfl (Kw.R_quo (c := (n.tdiv 10)) rfl rfl (by decide) (by have := hdd.1; unfold i64 at this; rw [Kw.wrap_i64 (by omega)])) ?_
          refine Kw.WL_callc rfl rfl rfl rfl F.cl31 rfl (ih (n.tdiv 10) (by have := hdd.2 hnn; omega) hdd.1 w) ?_; intro ww hww; rw [hww]; clear hww ww
          refine Kw.WL_v rfl rfl rfl (Kw.R_move rfl) ?_
          refine Kw.WL_callc rfl rfl rfl rfl F.cl45 rfl (digit_c (n.natAbs % 10) (by omega) w) ?_; intro ww hww; rw [hww]; clear hww ww
          refine Kw.WL_v rfl rfl rfl (Kw.R_adds (r := (bA (Lib.itoa n))) rfl rfl (by rw [show (bA [dg (n.natAbs % 10)]).size = 1 by rw [bA_size]; rfl]; omega) (itoa_step hnn)) ?_
          refine Kw.WL_v rfl rfl rfl (Kw.R_assign rfl) ?_
          refine Kw.WL_nil ?_
          refine hK24 _ _ ?_; clear hK24 K24
          refine Kw.WC_sub (l' := [(2, .string (bA (Lib.itoa n)))]) (Kw.Sub.cons rfl Kw.Sub.nil) ?_
          refine Kw.WC_ret ?_
          exact Kw.post_ret1 rfl rfl ⟨rfl, HB⟩
        ·
          refine Kw.WL_v rfl rfl rfl (Kw.R_lss (z := false) rfl rfl (decide_eq_false ce)) ?_
          rw [hmm.2.1 ce]
          refine Kw.WL_nil ?_
          refine hK23 _ _ ?_; clear hK23 K23
          refine Kw.WC_false rfl ?_
          refine Kw.WC_skip ?_
          refine hK22 _ _ ?_; clear hK22 K22
          refine Kw.WC_seq (fun K25 hK25 => ?_)
          refine Kw.WC_region [some 28, some 29, some 30, some 31, some 32, some 33, some 2] rfl ?_
          refine Kw.WL_v rfl rfl rfl (Kw.R_move rfl) ?_
          refine Kw.WL_v rfl rfl rfl (Kw.R_quo (c := (n.tdiv 10)) rfl rfl (by decide) (by have := hdd.1; unfold i64 at this; rw [Kw.wrap_i64 (by omega)])) ?_
          refine Kw.WL_callc rfl rfl rfl rfl F.cl31 rfl (ih (n.tdiv 10) (by have := hdd.2 hnn; omega) hdd.1 w) ?_; intro ww hww; rw [hww]; clear hww ww
          refine Kw.WL_v rfl rfl rfl (Kw.R_move rfl) ?_
          refine Kw.WL_callc rfl rfl rfl rfl F.cl45 rfl (digit_c (n.natAbs % 10) (by omega) w) ?_; intro ww hww; rw [hww]; clear hww ww
          refine Kw.WL_v rfl rfl rfl (Kw.R_adds (r := (bA (Lib.itoa n))) rfl rfl (by rw [show (bA [dg (n.natAbs % 10)]).size = 1 by rw [bA_size]; rfl]; omega) (itoa_step hnn)) ?_
          refine Kw.WL_v rfl rfl rfl (Kw.R_assign rfl) ?_
          refine Kw.WL_nil ?_
          refine hK25 _ _ ?_; clear hK25 K25
          refine Kw.WC_sub (l' := [(2, .string (bA (Lib.itoa n)))]) (Kw.Sub.cons rfl Kw.Sub.nil) ?_
          refine Kw.WC_ret ?_
          exact Kw.post_ret1 rfl rfl ⟨rfl, HB⟩
    ·
      refine Kw.WL_v rfl rfl rfl (Kw.R_geq (z := false) rfl rfl (decide_eq_false cc)) ?_
      refine Kw.WL_v rfl rfl rfl (Kw.R_move rfl) ?_
      refine Kw.WL_off rfl rfl rfl ?_
      refine Kw.WL_off rfl rfl rfl ?_
      refine Kw.WL_v rfl rfl rfl (Kw.R_pickf rfl rfl) ?_
      refine Kw.WL_nil ?_
      refine hK19 _ _ ?_; clear hK19 K19
      refine Kw.WC_sub (l' := [(0, .int .i64 n), (19, .bool false)]) (Kw.Sub.cons rfl (Kw.Sub.cons rfl Kw.Sub.nil)) ?_
      refine Kw.WC_false rfl ?_
      refine Kw.WC_skip ?_
      refine hK18 _ _ ?_; clear hK18 K18
      refine Kw.WC_seq (fun K26 hK26 => ?_)
      refine Kw.WC_region [some 22, some 23, some 3] rfl ?_
      refine Kw.WL_v rfl rfl rfl (Kw.R_move rfl) ?_
      have hnn : n ≤ -10 ∨ 10 ≤ n := by omega
      have hmm := tmod_abs (n := n)
      have hdd := tdiv_i64 hn
      have hlen := itoa_len hdd.1
      refine Kw.WL_v rfl rfl rfl (Kw.R_rem (c := (n.tmod 10)) rfl rfl (by decide) (rfl)) ?_
      refine Kw.WL_v rfl rfl rfl (Kw.R_assign rfl) ?_
      refine Kw.WL_nil ?_
      refine hK26 _ _ ?_; clear hK26 K26
      refine Kw.WC_seq (fun K27 hK27 => ?_)
      refine Kw.WC_seq (fun K28 hK28 => ?_)
      refine Kw.WC_region [some 24, some 25] rfl ?_
      refine Kw.WL_v rfl rfl rfl (Kw.R_move rfl) ?_
      by_cases ce : n.tmod 10 < (0 : Int)
      ·
        refine Kw.WL_v rfl rfl rfl (Kw.R_lss (z := true) rfl rfl (decide_eq_true ce)) ?_
        refine Kw.WL_nil ?_
        refine hK28 _ _ ?_; clear hK28 K28
        refine Kw.WC_true rfl ?_
        refine Kw.WC_region [some 26, some 27, some 3] rfl ?_
        refine Kw.WL_v rfl rfl rfl (Kw.R_move rfl) ?_
        refine Kw.WL_v rfl rfl rfl (Kw.R_neg (c := ((n.natAbs % 10 : Nat) : Int)) rfl (by rw [Kw.wrap_i64 (by omega)]; have := hmm.1 ce; omega)) ?_
        refine Kw.WL_v rfl rfl rfl (Kw.R_assign rfl) ?_
        refine Kw.WL_nil ?_
        refine hK27 _ _ ?_; clear hK27 K27
        refine Kw.WC_sub (l' := [(0, .int .i64 n), (3, .int .i64 ((n.natAbs % 10 : Nat) : Int))]) (Kw.Sub.cons rfl (Kw.Sub.cons rfl Kw.Sub.nil)) ?_
        refine Kw.WC_seq (fun K29 hK29 => ?_)
        refine Kw.WC_region [some 28, some 29, some 30, some 31, some 32, some 33, some 2] rfl ?_
        refine Kw.WL_v rfl rfl rfl (Kw.R_move rfl) ?_
        refine Kw.WL_v rfl rfl rfl (Kw.R_quo (c := (n.tdiv 10)) rfl rfl (by decide) (by have := hdd.1; unfold i64 at this; rw [Kw.wrap_i64 (by omega)])) ?_
        refine Kw.WL_callc rfl rfl rfl rfl F.cl31 rfl (ih (n.tdiv 10) (by have := hdd.2 hnn; omega) hdd.1 w) ?_; intro ww hww; rw [hww]; clear hww ww
        refine Kw.WL_v rfl rfl rfl (Kw.R_move rfl) ?_
        refine Kw.WL_callc rfl rfl rfl rfl F.cl45 rfl (digit_c (n.natAbs % 10) (by omega) w) ?_; intro ww hww; rw [hww]; clear hww ww
        refine Kw.WL_v rfl rfl rfl (Kw.R_adds (r := (bA (Lib.itoa n))) rfl rfl (by rw [show (bA [dg (n.natAbs % 10)]).size = 1 by rw [bA_size]; rfl]; omega) (itoa_step hnn)) ?_
        refine Kw.WL_v rfl rfl rfl (Kw.R_assign rfl) ?_
        refine Kw.WL_nil ?_
        refine hK29 _ _ ?_; clear hK29 K29
        refine Kw.WC_sub (l' := [(2, .string (bA (Lib.itoa n)))]) (Kw.Sub.cons rfl Kw.Sub.nil) ?_
        refine Kw.WC_ret ?_
        exact Kw.post_ret1 rfl rfl ⟨rfl, HB⟩
      ·
        refine Kw.WL_v rfl rfl rfl (Kw.R_lss (z := false) rfl rfl (decide_eq_false ce)) ?_
        rw [hmm.2.1 ce]
        refine Kw.WL_nil ?_
        refine hK28 _ _ ?_; clear hK28 K28
        refine Kw.WC_false rfl ?_
        refine Kw.WC_skip ?_
        refine hK27 _ _ ?_; clear hK27 K27
        refine Kw.WC_seq (fun K30 hK30 => ?_)
        refine Kw.WC_region [some 28, some 29, some 30, some 31, some 32, some 33, some 2] rfl ?_
        refine Kw.WL_v rfl rfl rfl (Kw.R_move rfl) ?_
        refine Kw.WL_v rfl rfl rfl (Kw.R_quo (c := (n.tdiv 10)) rfl rfl (by decide) (by have := hdd.1; unfold i64 at this; rw [Kw.wrap_i64 (by omega)])) ?_
        refine Kw.WL_callc rfl rfl rfl rfl F.cl31 rfl (ih (n.tdiv 10) (by have := hdd.2 hnn; omega) hdd.1 w) ?_; intro ww hww; rw [hww]; clear hww ww
        refine Kw.WL_v rfl rfl rfl (Kw.R_move rfl) ?_
        refine Kw.WL_callc rfl rfl rfl rfl F.cl45 rfl (digit_c (n.natAbs % 10) (by omega) w) ?_; intro ww hww; rw [hww]; clear hww ww
        refine Kw.WL_v rfl rfl rfl (Kw.R_adds (r := (bA (Lib.itoa n))) rfl rfl (by rw [show (bA [dg (n.natAbs % 10)]).size = 1 by rw [bA_size]; rfl]; omega) (itoa_step hnn)) ?_
        refine Kw.WL_v rfl rfl rfl (Kw.R_assign rfl) ?_
        refine Kw.WL_nil ?_
        refine hK30 _ _ ?_; clear hK30 K30
        refine Kw.WC_sub (l' := [(2, .string (bA (Lib.itoa n)))]) (Kw.Sub.cons rfl Kw.Sub.nil) ?_
        refine Kw.WC_ret ?_
        exact Kw.post_ret1 rfl rfl ⟨rfl, HB⟩
/-! ### Numbers and bytes read -/
def numS (n : Int) (y : UInt8) : Int := if n < (-9223372036854775808 + valR y).tdiv 10 ∨ 9 < valR y then 0 else n * 10 - valR y
def numF (l : List UInt8) : Int := l.foldl numS 0
def numR (l : List UInt8) : Int := if l.head? = some 45 then numF l.tail else IntKind.i64.wrap (0 - numF l)
theorem numF_snoc (l : List UInt8) (y : UInt8) : numF (l ++ [y]) = numS (numF l) y := by unfold numF; rw [List.foldl_append]; rfl
theorem quo_b {d : Int} (h : 0 ≤ d ∧ d ≤ 15) : -922337203685477580 ≤ (-9223372036854775808 + d).tdiv 10 ∧ (-9223372036854775808 + d).tdiv 10 ≤ -922337203685477579 ∧ (d = 9 → (-9223372036854775808 + d).tdiv 10 = -922337203685477579) ∧ (d ≤ 8 → (-9223372036854775808 + d).tdiv 10 = -922337203685477580) := by
  rw [show -9223372036854775808 + d = -(9223372036854775808 - d) by omega, Int.neg_tdiv, Int.tdiv_eq_ediv_of_nonneg (by omega)]
  omega
theorem numS_rng {n : Int} (h : -9223372036854775808 ≤ n ∧ n ≤ 0) (y : UInt8) : -9223372036854775808 ≤ numS n y ∧ numS n y ≤ 0 := by
  have h1 := valR_range y
  have h2 := quo_b h1
  unfold numS
  split
  · omega
  · omega
theorem numF_rng (l : List UInt8) : -9223372036854775808 ≤ numF l ∧ numF l ≤ 0 := by
  unfold numF
  suffices H : ∀ (l : List UInt8) (n : Int), (-9223372036854775808 ≤ n ∧ n ≤ 0) → -9223372036854775808 ≤ l.foldl numS n ∧ l.foldl numS n ≤ 0 from H l 0 ⟨by omega, by omega⟩
  intro l
  induction l with
  | nil => intro n h; exact h
  | cons y l ih => intro n h; exact ih _ (numS_rng h y)
theorem numR_i64 (l : List UInt8) : i64 (numR l) := by
  unfold numR
  split
  · have := numF_rng l.tail; unfold i64; omega
  · have h := numF_rng l
    by_cases e : numF l = -9223372036854775808
    · rw [e]; unfold i64; decide
    · rw [Kw.wrap_i64 (by omega)]; unfold i64; omega
theorem valR_dig : ∀ d, d < 10 → valR (UInt8.ofNat (48 + d)) = (d : Int) := by decide +kernel
theorem numF_dec : ∀ (k u : Nat), u < k → u ≤ 9223372036854775808 → numF (Lib.decDigits u) = -(u : Int)
  | 0, u, h, _ => by omega
  | k + 1, u, h, h2 => by
    rw [Lib.decDigits]
    by_cases e : u < 10
    · rw [dif_pos e]
      have hv := valR_dig u e
      have hq := quo_b (d := (u : Int)) (by omega)
      have : numF [UInt8.ofNat (48 + u)] = numS 0 (UInt8.ofNat (48 + u)) := rfl
      rw [this]; unfold numS; rw [hv, if_neg (by omega)]; omega
    · rw [dif_neg e, numF_snoc, numF_dec k (u / 10) (by omega) (by omega)]
      have hv := valR_dig (u % 10) (by omega)
      have hq := quo_b (d := ((u % 10 : Nat) : Int)) (by omega)
      unfold numS; rw [hv, if_neg (by omega)]; omega
theorem numR_itoa {n : Int} (h : i64 n) : numR (Lib.itoa n) = n := by
  unfold i64 at h
  unfold Lib.itoa
  by_cases hn : n < 0
  · rw [if_pos hn]
    unfold numR
    rw [List.head?_cons, if_pos rfl, List.tail_cons, numF_dec (n.natAbs + 1) _ (by omega) (by omega)]; omega
  · rw [if_neg hn]
    unfold numR
    rw [if_neg, numF_dec (n.toNat + 1) _ (by omega) (by omega), Kw.wrap_i64 (by omega)]
    · omega
    · intro hh
      have hm : (45 : UInt8) ∈ Lib.decDigits n.toNat := List.mem_of_mem_head? hh
      have := dec_rng (n.toNat + 1) n.toNat (by omega) 45 hm
      revert this; decide
def pairR (a b : UInt8) : UInt8 := UInt8.ofNat ((valR a * 16 + valR b) % 256).toNat
def readL : List UInt8 → List UInt8
  | a :: b :: r => pairR a b :: readL r
  | _ => []
theorem pairR_val (y z : UInt8) : (valR y * 16 + valR z) % 256 = (((pairR y z).toNat : Nat) : Int) := by
  unfold pairR
  rw [UInt8.toNat_ofNat']
  omega
theorem readL_len : ∀ l : List UInt8, (readL l).length = l.length / 2
  | [] => rfl
  | [x] => by simp [readL]
  | a :: b :: r => by
    rw [readL, List.length_cons, readL_len r, List.length_cons, List.length_cons]; omega
theorem readL_get : ∀ (l : List UInt8) (j : Nat) (h : 2 * j + 1 < l.length), (readL l)[j]? = some (pairR (l[2 * j]'(by omega)) (l[2 * j + 1]'h))
  | a :: b :: r, 0, h => rfl
  | a :: b :: r, j + 1, h => by
    have := readL_get r j (by simp only [List.length_cons] at h; omega)
    rw [readL, List.getElem?_cons_succ, this]
    rfl
theorem read_snoc (s : List UInt8) (j : Nat) (h1 : 2 * j + 1 < s.length) (h2 : 2 * j + 2 < s.length) : (readL s.tail).take (j + 1) = (readL s.tail).take j ++ [pairR (s[2 * j + 1]'h1) (s[2 * j + 2]'h2)] := by
  cases s with
  | nil => simp at h1
  | cons x l =>
    simp only [List.length_cons] at h1 h2
    have := readL_get l j (by omega)
    obtain ⟨hl, he⟩ := List.getElem?_eq_some_iff.1 this
    rw [List.tail_cons, take_snocL hl, he]; rfl
theorem pairR_dg : ∀ n, n < 256 → pairR (dg (n / 16)) (dg (n % 16)) = UInt8.ofNat n := by decide +kernel
theorem read_hex : ∀ l : List UInt8, readL (hexL l).tail = l
  | [] => rfl
  | b :: l => by
    have e : (hexL (b :: l)).tail = dg (b.toNat / 16) :: dg (b.toNat % 16) :: (hexL l).tail := by unfold hexL; simp
    rw [e, readL, read_hex l, pairR_dg _ (UInt8.toNat_lt b), UInt8.ofNat_toNat]
theorem tail_take {l : List UInt8} {i : Nat} (h : i < l.length) (h0 : 1 ≤ i) : (l.take (i + 1)).tail = (l.take i).tail ++ [l[i]'h] := by
  rw [take_snocL h, List.tail_append_of_ne_nil]
  intro e
  have := congrArg List.length e
  rw [List.length_take, List.length_nil] at this; omega
theorem tail_take0 (l : List UInt8) : (l.take 1).tail = (l.take 0).tail := by cases l <;> rfl

set_option maxRecDepth 100000 in
set_option maxHeartbeats 4000000 in
theorem number_c (s : ByteArray) (hs : s.size ≤ 1000000000) (w : World) : Calls Tryd.prog 35 #[.string s] w fun e w' => e = .returned (.int .i64 (numR s.data.toList)) ∧ w' = w := by
  have HB : w = w := rfl
  refine Kw.enter Tryd.func35 rfl Tryd.ntmps35 rfl rfl ?_
  refine Kw.WC_seq (fun K1 hK1 => ?_)
  refine Kw.WC_region [some 2] rfl ?_
  refine Kw.WL_v rfl rfl rfl (Kw.R_assign rfl) ?_
  refine Kw.WL_nil ?_
  refine hK1 _ _ ?_; clear hK1 K1
  refine Kw.WC_seq (fun K2 hK2 => ?_)
  refine Kw.WC_region [some 3] rfl ?_
  refine Kw.WL_v rfl rfl rfl (Kw.R_assign rfl) ?_
  refine Kw.WL_nil ?_
  refine hK2 _ _ ?_; clear hK2 K2
  refine Kw.WC_seq (fun K3 hK3 => ?_)
  refine Kw.WC_region [some 7, some 8, some 9, some 10, some 11, some 12, some 13, some 14, some 4] rfl ?_
  refine Kw.WL_v rfl rfl rfl (Kw.R_move rfl) ?_
  refine Kw.WL_v rfl rfl rfl (Kw.R_lens Tryd.underlying9 rfl) ?_
  by_cases cz : (0 : Int) < (s.size : Int)
  ·
    refine Kw.WL_v rfl rfl rfl (Kw.R_gtr (z := true) rfl rfl (decide_eq_true cz)) ?_
    have h00 : 0 < s.data.toList.length := by rw [size_list]; omega
    obtain ⟨y0, hy0⟩ : ∃ y, y = s.data.toList[0]'h00 := ⟨_, rfl⟩
    refine Kw.WL_v rfl rfl rfl (Kw.R_move rfl) ?_
    refine Kw.WL_v rfl rfl rfl (Kw.R_move rfl) ?_
    refine Kw.WL_v rfl rfl rfl (Kw.R_indexb (i := 0) (c := ((y0.toNat : Nat) : Int)) Tryd.underlying9 rfl rfl (by omega) (by rw [byt_list s 0 h00, ← hy0])) ?_
    by_cases cq : ((y0.toNat : Nat) : Int) = 45
    ·
      refine Kw.WL_v rfl rfl rfl (Kw.R_eqi (z := true) rfl rfl (decide_eq_true cq)) ?_
      have hh0 : s.data.toList.head? = some y0 := by rw [List.head?_eq_getElem?, List.getElem?_eq_getElem h00, hy0]
      have hmz : s.data.toList.head? = some 45 := by rw [hh0]; congr 1; exact UInt8.toNat_inj.1 (by have : (45 : UInt8).toNat = 45 := rfl; omega)
      refine Kw.WL_v rfl rfl rfl (Kw.R_pickt rfl rfl) ?_
      refine Kw.WL_v rfl rfl rfl (Kw.R_assign rfl) ?_
      refine Kw.WL_nil ?_
      refine hK3 _ _ ?_; clear hK3 K3
      refine Kw.WC_sub (l' := [(0, .string s), (3, .int .i64 0), (4, .bool true)]) (Kw.Sub.cons rfl (Kw.Sub.cons rfl (Kw.Sub.cons rfl Kw.Sub.nil))) ?_
      refine Kw.WC_seq (fun K4 hK4 => ?_)
      refine Kw.WC_seq (fun K5 hK5 => ?_)
      refine Kw.WC_region [some 5] rfl ?_
      refine Kw.WL_v rfl rfl rfl (Kw.R_assign rfl) ?_
      refine Kw.WL_nil ?_
      refine hK5 _ _ ?_; clear hK5 K5
      refine Kw.WC_block ?_
      refine Kw.WC_loop (ι := Nat × Int) (fun (q : Nat × Int) (ww : World) => match q with | ⟨i, n⟩ => (i ≤ s.size ∧ -9223372036854775808 ≤ n ∧ n ≤ 0 ∧ n = numF (s.data.toList.take i).tail) ∧ ww = w) (fun (q : Nat × Int) => match q with | ⟨i, n⟩ => [(0, .string s), (3, .int .i64 n), (4, .bool true), (5, .int .i64 (i : Int))]) (fun (q : Nat × Int) => match q with | ⟨i, n⟩ => s.size - i) (0, 0) ⟨⟨Nat.zero_le _, by omega, Int.le_refl _, rfl⟩, HB⟩ (Kw.Sub.cons rfl (Kw.Sub.cons rfl (Kw.Sub.cons rfl (Kw.Sub.cons rfl Kw.Sub.nil)))) ?_
      clear HB
      rintro ⟨i, n⟩ w6 ⟨⟨hi, hn1, hn2, hnF⟩, HB⟩
      dsimp only at *
      refine Kw.WC_seq (fun K7 hK7 => ?_)
      refine Kw.WC_seq (fun K8 hK8 => ?_)
      refine Kw.WC_region [some 15, some 16, some 17, some 18] rfl ?_
      refine Kw.WL_v rfl rfl rfl (Kw.R_move rfl) ?_
      refine Kw.WL_v rfl rfl rfl (Kw.R_move rfl) ?_
      refine Kw.WL_v rfl rfl rfl (Kw.R_lens Tryd.underlying9 rfl) ?_
      by_cases c9 : (i : Int) < (s.size : Int)
      ·
        refine Kw.WL_v rfl rfl rfl (Kw.R_lss (z := true) rfl rfl (decide_eq_true c9)) ?_
        have hi3 : i < s.data.toList.length := by rw [size_list]; omega
        obtain ⟨y, hy⟩ : ∃ y, y = s.data.toList[i]'hi3 := ⟨_, rfl⟩
        have hvr := valR_range y
        have hqb := quo_b hvr
        refine Kw.WL_nil ?_
        refine hK8 _ _ ?_; clear hK8 K8
        refine Kw.WC_true rfl ?_
        refine Kw.WC_skip ?_
        refine hK7 _ _ ?_; clear hK7 K7
        refine Kw.WC_seq (fun K10 hK10 => ?_)
        refine Kw.WC_block ?_
        refine Kw.WC_seq (fun K11 hK11 => ?_)
        refine Kw.WC_seq (fun K12 hK12 => ?_)
        refine Kw.WC_region [some 21, some 22, some 23, some 24, some 25] rfl ?_
        refine Kw.WL_v rfl rfl rfl (Kw.R_move rfl) ?_
        by_cases ci : (i : Int) = 0
        ·
          refine Kw.WL_v rfl rfl rfl (Kw.R_eqi (z := true) rfl rfl (decide_eq_true ci)) ?_
          refine Kw.WL_v rfl rfl rfl (Kw.R_move rfl) ?_
          refine Kw.WL_v rfl rfl rfl (Kw.R_move rfl) ?_
          refine Kw.WL_v rfl rfl rfl (Kw.R_pickt rfl rfl) ?_
          refine Kw.WL_nil ?_
          refine hK12 _ _ ?_; clear hK12 K12
          refine Kw.WC_sub (l' := [(0, .string s), (3, .int .i64 n), (4, .bool true), (5, .int .i64 (i : Int)), (24, .bool true), (25, .bool true)]) (Kw.Sub.cons rfl (Kw.Sub.cons rfl (Kw.Sub.cons rfl (Kw.Sub.cons rfl (Kw.Sub.cons rfl (Kw.Sub.cons rfl Kw.Sub.nil)))))) ?_
          refine Kw.WC_true rfl ?_
          refine Kw.WC_exit ?_
          refine Kw.QE_then ?_; clear hK11 K11
          refine Kw.QE_here ?_
          refine hK10 _ _ ?_; clear hK10 K10
          refine Kw.WC_region [some 19, some 20, some 5] rfl ?_
          refine Kw.WL_v rfl rfl rfl (Kw.R_move rfl) ?_
          refine Kw.WL_v rfl rfl rfl (Kw.R_add (c := ((i + 1 : Nat) : Int)) rfl rfl (by rw [Kw.wrap_i64 (by omega)]; omega)) ?_
          refine Kw.WL_v rfl rfl rfl (Kw.R_assign rfl) ?_
          refine Kw.WL_nil ?_
          refine Kw.QN_round ((i + 1, n)) ⟨⟨by (try dsimp only); omega, by (try dsimp only); omega, by (try dsimp only); omega, by (try dsimp only); exact (by rw [hnF, show i = 0 by omega]; exact congrArg numF (tail_take0 _).symm)⟩, HB⟩ (by dsimp only; omega) (Kw.Sub.cons rfl (Kw.Sub.cons rfl (Kw.Sub.cons rfl (Kw.Sub.cons rfl Kw.Sub.nil))))
        ·
          refine Kw.WL_v rfl rfl rfl (Kw.R_eqi (z := false) rfl rfl (decide_eq_false ci)) ?_
          refine Kw.WL_v rfl rfl rfl (Kw.R_move rfl) ?_
          refine Kw.WL_off rfl rfl rfl ?_
          refine Kw.WL_v rfl rfl rfl (Kw.R_pickf rfl rfl) ?_
          refine Kw.WL_nil ?_
          refine hK12 _ _ ?_; clear hK12 K12
          refine Kw.WC_sub (l' := [(0, .string s), (3, .int .i64 n), (4, .bool true), (5, .int .i64 (i : Int)), (24, undef), (25, .bool false)]) (Kw.Sub.cons rfl (Kw.Sub.cons rfl (Kw.Sub.cons rfl (Kw.Sub.cons rfl (Kw.Sub.cons rfl (Kw.Sub.cons rfl Kw.Sub.nil)))))) ?_
          refine Kw.WC_false rfl ?_
          refine Kw.WC_skip ?_
          refine hK11 _ _ ?_; clear hK11 K11
          refine Kw.WC_seq (fun K13 hK13 => ?_)
          refine Kw.WC_region [some 26, some 27, some 28, some 29, some 6] rfl ?_
          refine Kw.WL_v rfl rfl rfl (Kw.R_move rfl) ?_
          refine Kw.WL_v rfl rfl rfl (Kw.R_move rfl) ?_
          refine Kw.WL_v rfl rfl rfl (Kw.R_indexb (i := i) (c := ((y.toNat : Nat) : Int)) Tryd.underlying9 rfl rfl (by rw [← size_list]; exact hi3) (by rw [byt_list s i hi3, ← hy])) ?_
          refine Kw.WL_callc rfl rfl rfl rfl F.cl46 rfl (value_c y w6) ?_; intro ww hww; rw [hww]; clear hww ww
          refine Kw.WL_v rfl rfl rfl (Kw.R_assign rfl) ?_
          refine Kw.WL_nil ?_
          refine hK13 _ _ ?_; clear hK13 K13
          refine Kw.WC_seq (fun K14 hK14 => ?_)
          refine Kw.WC_seq (fun K15 hK15 => ?_)
          refine Kw.WC_region [some 30, some 31, some 32, some 33, some 34, some 35, some 36, some 37, some 38] rfl ?_
          refine Kw.WL_v rfl rfl rfl (Kw.R_move rfl) ?_
          refine Kw.WL_v rfl rfl rfl (Kw.R_move rfl) ?_
          refine Kw.WL_v rfl rfl rfl (Kw.R_add (c := (-9223372036854775808 + valR y)) rfl rfl (by rw [Kw.wrap_i64 (by omega)])) ?_
          refine Kw.WL_v rfl rfl rfl (Kw.R_quo (c := ((-9223372036854775808 + valR y).tdiv 10)) rfl rfl (by decide) (by rw [Kw.wrap_i64 (by omega)])) ?_
          by_cases cn : n < (-9223372036854775808 + valR y).tdiv 10
          ·
            refine Kw.WL_v rfl rfl rfl (Kw.R_lss (z := true) rfl rfl (decide_eq_true cn)) ?_
            refine Kw.WL_v rfl rfl rfl (Kw.R_move rfl) ?_
            refine Kw.WL_off rfl rfl rfl ?_
            refine Kw.WL_off rfl rfl rfl ?_
            refine Kw.WL_v rfl rfl rfl (Kw.R_pickt rfl rfl) ?_
            refine Kw.WL_nil ?_
            refine hK15 _ _ ?_; clear hK15 K15
            refine Kw.WC_sub (l' := [(0, .string s), (3, .int .i64 n), (4, .bool true), (5, .int .i64 (i : Int)), (24, undef), (6, .int .i64 (valR y)), (36, undef), (37, undef), (38, .bool true)]) (Kw.Sub.cons rfl (Kw.Sub.cons rfl (Kw.Sub.cons rfl (Kw.Sub.cons rfl (Kw.Sub.cons rfl (Kw.Sub.cons rfl (Kw.Sub.cons rfl (Kw.Sub.cons rfl (Kw.Sub.cons rfl Kw.Sub.nil))))))))) ?_
            refine Kw.WC_true rfl ?_
            refine Kw.WC_region [some 6, some 3] rfl ?_
            refine Kw.WL_v rfl rfl rfl (Kw.R_assign rfl) ?_
            refine Kw.WL_v rfl rfl rfl (Kw.R_assign rfl) ?_
            refine Kw.WL_nil ?_
            refine hK14 _ _ ?_; clear hK14 K14
            refine Kw.WC_region [some 39, some 40, some 41, some 42, some 3] rfl ?_
            refine Kw.WL_v rfl rfl rfl (Kw.R_move rfl) ?_
            refine Kw.WL_v rfl rfl rfl (Kw.R_mul (c := 0) rfl rfl (by rw [Kw.wrap_i64 (by omega)]; rfl)) ?_
            refine Kw.WL_v rfl rfl rfl (Kw.R_move rfl) ?_
            refine Kw.WL_v rfl rfl rfl (Kw.R_sub (c := 0) rfl rfl (by rw [Kw.wrap_i64 (by omega)]; rfl)) ?_
            refine Kw.WL_v rfl rfl rfl (Kw.R_assign rfl) ?_
            refine Kw.WL_nil ?_
            refine Kw.QN_block ?_
            refine hK10 _ _ ?_; clear hK10 K10
            refine Kw.WC_sub (l' := [(0, .string s), (3, .int .i64 0), (4, .bool true), (5, .int .i64 (i : Int)), (24, undef), (36, undef), (37, undef)]) (Kw.Sub.cons rfl (Kw.Sub.cons rfl (Kw.Sub.cons rfl (Kw.Sub.cons rfl (Kw.Sub.cons rfl (Kw.Sub.cons rfl (Kw.Sub.cons rfl Kw.Sub.nil))))))) ?_
            refine Kw.WC_region [some 19, some 20, some 5] rfl ?_
            refine Kw.WL_v rfl rfl rfl (Kw.R_move rfl) ?_
            refine Kw.WL_v rfl rfl rfl (Kw.R_add (c := ((i + 1 : Nat) : Int)) rfl rfl (by rw [Kw.wrap_i64 (by omega)]; omega)) ?_
            refine Kw.WL_v rfl rfl rfl (Kw.R_assign rfl) ?_
            refine Kw.WL_nil ?_
            refine Kw.QN_round ((i + 1, 0)) ⟨⟨by (try dsimp only); omega, by (try dsimp only); omega, by (try dsimp only); omega, by (try dsimp only); exact (by rw [tail_take hi3 (by omega), numF_snoc, ← hnF, ← hy]; unfold numS; rw [if_pos (.inl cn)])⟩, HB⟩ (by dsimp only; omega) (Kw.Sub.cons rfl (Kw.Sub.cons rfl (Kw.Sub.cons rfl (Kw.Sub.cons rfl Kw.Sub.nil))))
          ·
            refine Kw.WL_v rfl rfl rfl (Kw.R_lss (z := false) rfl rfl (decide_eq_false cn)) ?_
            refine Kw.WL_v rfl rfl rfl (Kw.R_move rfl) ?_
            refine Kw.WL_v rfl rfl rfl (Kw.R_move rfl) ?_
            by_cases cd : (9 : Int) < valR y
            ·
              refine Kw.WL_v rfl rfl rfl (Kw.R_gtr (z := true) rfl rfl (decide_eq_true cd)) ?_
              refine Kw.WL_v rfl rfl rfl (Kw.R_pickf rfl rfl) ?_
              refine Kw.WL_nil ?_
              refine hK15 _ _ ?_; clear hK15 K15
              refine Kw.WC_sub (l' := [(0, .string s), (3, .int .i64 n), (4, .bool true), (5, .int .i64 (i : Int)), (24, undef), (6, .int .i64 (valR y)), (36, .int .i64 (valR y)), (37, .bool true), (38, .bool true)]) (Kw.Sub.cons rfl (Kw.Sub.cons rfl (Kw.Sub.cons rfl (Kw.Sub.cons rfl (Kw.Sub.cons rfl (Kw.Sub.cons rfl (Kw.Sub.cons rfl (Kw.Sub.cons rfl (Kw.Sub.cons rfl Kw.Sub.nil))))))))) ?_
              refine Kw.WC_true rfl ?_
              refine Kw.WC_region [some 6, some 3] rfl ?_
              refine Kw.WL_v rfl rfl rfl (Kw.R_assign rfl) ?_
              refine Kw.WL_v rfl rfl rfl (Kw.R_assign rfl) ?_
              refine Kw.WL_nil ?_
              refine hK14 _ _ ?_; clear hK14 K14
              refine Kw.WC_region [some 39, some 40, some 41, some 42, some 3] rfl ?_
              refine Kw.WL_v rfl rfl rfl (Kw.R_move rfl) ?_
              refine Kw.WL_v rfl rfl rfl (Kw.R_mul (c := 0) rfl rfl (by rw [Kw.wrap_i64 (by omega)]; rfl)) ?_
              refine Kw.WL_v rfl rfl rfl (Kw.R_move rfl) ?_
              refine Kw.WL_v rfl rfl rfl (Kw.R_sub (c := 0) rfl rfl (by rw [Kw.wrap_i64 (by omega)]; rfl)) ?_
              refine Kw.WL_v rfl rfl rfl (Kw.R_assign rfl) ?_
              refine Kw.WL_nil ?_
              refine Kw.QN_block ?_
              refine hK10 _ _ ?_; clear hK10 K10
              refine Kw.WC_sub (l' := [(0, .string s), (3, .int .i64 0), (4, .bool true), (5, .int .i64 (i : Int)), (24, undef), (36, .int .i64 (valR y)), (37, .bool true)]) (Kw.Sub.cons rfl (Kw.Sub.cons rfl (Kw.Sub.cons rfl (Kw.Sub.cons rfl (Kw.Sub.cons rfl (Kw.Sub.cons rfl (Kw.Sub.cons rfl Kw.Sub.nil))))))) ?_
              refine Kw.WC_region [some 19, some 20, some 5] rfl ?_
              refine Kw.WL_v rfl rfl rfl (Kw.R_move rfl) ?_
              refine Kw.WL_v rfl rfl rfl (Kw.R_add (c := ((i + 1 : Nat) : Int)) rfl rfl (by rw [Kw.wrap_i64 (by omega)]; omega)) ?_
              refine Kw.WL_v rfl rfl rfl (Kw.R_assign rfl) ?_
              refine Kw.WL_nil ?_
              refine Kw.QN_round ((i + 1, 0)) ⟨⟨by (try dsimp only); omega, by (try dsimp only); omega, by (try dsimp only); omega, by (try dsimp only); exact (by rw [tail_take hi3 (by omega), numF_snoc, ← hnF, ← hy]; unfold numS; rw [if_pos (.inr cd)])⟩, HB⟩ (by dsimp only; omega) (Kw.Sub.cons rfl (Kw.Sub.cons rfl (Kw.Sub.cons rfl (Kw.Sub.cons rfl Kw.Sub.nil))))
            ·
              refine Kw.WL_v rfl rfl rfl (Kw.R_gtr (z := false) rfl rfl (decide_eq_false cd)) ?_
              refine Kw.WL_v rfl rfl rfl (Kw.R_pickf rfl rfl) ?_
              refine Kw.WL_nil ?_
              refine hK15 _ _ ?_; clear hK15 K15
              refine Kw.WC_sub (l' := [(0, .string s), (3, .int .i64 n), (4, .bool true), (5, .int .i64 (i : Int)), (24, undef), (6, .int .i64 (valR y)), (36, .int .i64 (valR y)), (37, .bool false), (38, .bool false)]) (Kw.Sub.cons rfl (Kw.Sub.cons rfl (Kw.Sub.cons rfl (Kw.Sub.cons rfl (Kw.Sub.cons rfl (Kw.Sub.cons rfl (Kw.Sub.cons rfl (Kw.Sub.cons rfl (Kw.Sub.cons rfl Kw.Sub.nil))))))))) ?_
              refine Kw.WC_false rfl ?_
              refine Kw.WC_skip ?_
              refine hK14 _ _ ?_; clear hK14 K14
              refine Kw.WC_region [some 39, some 40, some 41, some 42, some 3] rfl ?_
              refine Kw.WL_v rfl rfl rfl (Kw.R_move rfl) ?_
              refine Kw.WL_v rfl rfl rfl (Kw.R_mul (c := (n * 10)) rfl rfl (by rw [Kw.wrap_i64 (by omega)])) ?_
              refine Kw.WL_v rfl rfl rfl (Kw.R_move rfl) ?_
              refine Kw.WL_v rfl rfl rfl (Kw.R_sub (c := (n * 10 - valR y)) rfl rfl (by rw [Kw.wrap_i64 (by omega)])) ?_
              refine Kw.WL_v rfl rfl rfl (Kw.R_assign rfl) ?_
              refine Kw.WL_nil ?_
              refine Kw.QN_block ?_
              refine hK10 _ _ ?_; clear hK10 K10
              refine Kw.WC_sub (l' := [(0, .string s), (3, .int .i64 (n * 10 - valR y)), (4, .bool true), (5, .int .i64 (i : Int)), (24, undef), (36, .int .i64 (valR y)), (37, .bool false)]) (Kw.Sub.cons rfl (Kw.Sub.cons rfl (Kw.Sub.cons rfl (Kw.Sub.cons rfl (Kw.Sub.cons rfl (Kw.Sub.cons rfl (Kw.Sub.cons rfl Kw.Sub.nil))))))) ?_
              refine Kw.WC_region [some 19, some 20, some 5] rfl ?_
              refine Kw.WL_v rfl rfl rfl (Kw.R_move rfl) ?_
              refine Kw.WL_v rfl rfl rfl (Kw.R_add (c := ((i + 1 : Nat) : Int)) rfl rfl (by rw [Kw.wrap_i64 (by omega)]; omega)) ?_
              refine Kw.WL_v rfl rfl rfl (Kw.R_assign rfl) ?_
              refine Kw.WL_nil ?_
              refine Kw.QN_round ((i + 1, (n * 10 - valR y))) ⟨⟨by (try dsimp only); omega, by (try dsimp only); omega, by (try dsimp only); omega, by (try dsimp only); exact (by rw [tail_take hi3 (by omega), numF_snoc, ← hnF, ← hy]; unfold numS; rw [if_neg (by omega)])⟩, HB⟩ (by dsimp only; omega) (Kw.Sub.cons rfl (Kw.Sub.cons rfl (Kw.Sub.cons rfl (Kw.Sub.cons rfl Kw.Sub.nil))))
      ·
        refine Kw.WL_v rfl rfl rfl (Kw.R_lss (z := false) rfl rfl (decide_eq_false c9)) ?_
        rw [List.take_of_length_le (by rw [size_list]; omega)] at hnF
        refine Kw.WL_nil ?_
        refine hK8 _ _ ?_; clear hK8 K8
        refine Kw.WC_false rfl ?_
        refine Kw.WC_exit ?_
        refine Kw.QE_then ?_; clear hK7 K7
        refine Kw.QE_then ?_
        refine Kw.QE_here ?_
        refine hK4 _ _ ?_; clear hK4 K4
        refine Kw.WC_sub (l' := [(3, .int .i64 n), (4, .bool true)]) (Kw.Sub.cons rfl (Kw.Sub.cons rfl Kw.Sub.nil)) ?_
        refine Kw.WC_seq (fun K16 hK16 => ?_)
        refine Kw.WC_seq (fun K17 hK17 => ?_)
        refine Kw.WC_region [some 43] rfl ?_
        refine Kw.WL_v rfl rfl rfl (Kw.R_move rfl) ?_
        refine Kw.WL_nil ?_
        refine hK17 _ _ ?_; clear hK17 K17
        refine Kw.WC_true rfl ?_
        refine Kw.WC_seq (fun K18 hK18 => ?_)
        refine Kw.WC_region [some 44, some 2] rfl ?_
        refine Kw.WL_v rfl rfl rfl (Kw.R_move rfl) ?_
        refine Kw.WL_v rfl rfl rfl (Kw.R_assign rfl) ?_
        refine Kw.WL_nil ?_
        refine hK18 _ _ ?_; clear hK18 K18
        refine Kw.WC_ret ?_
        refine Kw.QR_then ?_; clear hK16 K16
        exact Kw.post_ret1 rfl rfl ⟨by unfold numR; rw [if_pos hmz, hnF], HB⟩
    ·
      refine Kw.WL_v rfl rfl rfl (Kw.R_eqi (z := false) rfl rfl (decide_eq_false cq)) ?_
      have hh0 : s.data.toList.head? = some y0 := by rw [List.head?_eq_getElem?, List.getElem?_eq_getElem h00, hy0]
      have hmz : s.data.toList.head? ≠ some 45 := by rw [hh0]; intro h; rw [Option.some.inj h] at cq; exact cq rfl
      refine Kw.WL_v rfl rfl rfl (Kw.R_pickt rfl rfl) ?_
      refine Kw.WL_v rfl rfl rfl (Kw.R_assign rfl) ?_
      refine Kw.WL_nil ?_
      refine hK3 _ _ ?_; clear hK3 K3
      refine Kw.WC_sub (l' := [(0, .string s), (3, .int .i64 0), (4, .bool false)]) (Kw.Sub.cons rfl (Kw.Sub.cons rfl (Kw.Sub.cons rfl Kw.Sub.nil))) ?_
      refine Kw.WC_seq (fun K19 hK19 => ?_)
      refine Kw.WC_seq (fun K20 hK20 => ?_)
      refine Kw.WC_region [some 5] rfl ?_
      refine Kw.WL_v rfl rfl rfl (Kw.R_assign rfl) ?_
      refine Kw.WL_nil ?_
      refine hK20 _ _ ?_; clear hK20 K20
      refine Kw.WC_block ?_
      refine Kw.WC_loop (ι := Nat × Int) (fun (q : Nat × Int) (ww : World) => match q with | ⟨i, n⟩ => (i ≤ s.size ∧ -9223372036854775808 ≤ n ∧ n ≤ 0 ∧ n = numF (s.data.toList.take i)) ∧ ww = w) (fun (q : Nat × Int) => match q with | ⟨i, n⟩ => [(0, .string s), (3, .int .i64 n), (4, .bool false), (5, .int .i64 (i : Int))]) (fun (q : Nat × Int) => match q with | ⟨i, n⟩ => s.size - i) (0, 0) ⟨⟨Nat.zero_le _, by omega, Int.le_refl _, rfl⟩, HB⟩ (Kw.Sub.cons rfl (Kw.Sub.cons rfl (Kw.Sub.cons rfl (Kw.Sub.cons rfl Kw.Sub.nil)))) ?_
      clear HB
      rintro ⟨i, n⟩ w21 ⟨⟨hi, hn1, hn2, hnF⟩, HB⟩
      dsimp only at *
      refine Kw.WC_seq (fun K22 hK22 => ?_)
      refine Kw.WC_seq (fun K23 hK23 => ?_)
      refine Kw.WC_region [some 15, some 16, some 17, some 18] rfl ?_
      refine Kw.WL_v rfl rfl rfl (Kw.R_move rfl) ?_
      refine Kw.WL_v rfl rfl rfl (Kw.R_move rfl) ?_
      refine Kw.WL_v rfl rfl rfl (Kw.R_lens Tryd.underlying9 rfl) ?_
      by_cases c24 : (i : Int) < (s.size : Int)
      ·
        refine Kw.WL_v rfl rfl rfl (Kw.R_lss (z := true) rfl rfl (decide_eq_true c24)) ?_
        have hi3 : i < s.data.toList.length := by rw [size_list]; omega
        obtain ⟨y, hy⟩ : ∃ y, y = s.data.toList[i]'hi3 := ⟨_, rfl⟩
        have hvr := valR_range y
        have hqb := quo_b hvr
        refine Kw.WL_nil ?_
        refine hK23 _ _ ?_; clear hK23 K23
        refine Kw.WC_true rfl ?_
        refine Kw.WC_skip ?_
        refine hK22 _ _ ?_; clear hK22 K22
        refine Kw.WC_seq (fun K25 hK25 => ?_)
        refine Kw.WC_block ?_
        refine Kw.WC_seq (fun K26 hK26 => ?_)
        refine Kw.WC_seq (fun K27 hK27 => ?_)
        refine Kw.WC_region [some 21, some 22, some 23, some 24, some 25] rfl ?_
        refine Kw.WL_v rfl rfl rfl (Kw.R_move rfl) ?_
        by_cases ci : (i : Int) = 0
        ·
          refine Kw.WL_v rfl rfl rfl (Kw.R_eqi (z := true) rfl rfl (decide_eq_true ci)) ?_
          refine Kw.WL_v rfl rfl rfl (Kw.R_move rfl) ?_
          refine Kw.WL_v rfl rfl rfl (Kw.R_move rfl) ?_
          refine Kw.WL_v rfl rfl rfl (Kw.R_pickt rfl rfl) ?_
          refine Kw.WL_nil ?_
          refine hK27 _ _ ?_; clear hK27 K27
          refine Kw.WC_sub (l' := [(0, .string s), (3, .int .i64 n), (4, .bool false), (5, .int .i64 (i : Int)), (24, .bool false), (25, .bool false)]) (Kw.Sub.cons rfl (Kw.Sub.cons rfl (Kw.Sub.cons rfl (Kw.Sub.cons rfl (Kw.Sub.cons rfl (Kw.Sub.cons rfl Kw.Sub.nil)))))) ?_
          refine Kw.WC_false rfl ?_
          refine Kw.WC_skip ?_
          refine hK26 _ _ ?_; clear hK26 K26
          refine Kw.WC_seq (fun K28 hK28 => ?_)
          refine Kw.WC_region [some 26, some 27, some 28, some 29, some 6] rfl ?_
          refine Kw.WL_v rfl rfl rfl (Kw.R_move rfl) ?_
          refine Kw.WL_v rfl rfl rfl (Kw.R_move rfl) ?_
          refine Kw.WL_v rfl rfl rfl (Kw.R_indexb (i := i) (c := ((y.toNat : Nat) : Int)) Tryd.underlying9 rfl rfl (by rw [← size_list]; exact hi3) (by rw [byt_list s i hi3, ← hy])) ?_
          refine Kw.WL_callc rfl rfl rfl rfl F.cl46 rfl (value_c y w21) ?_; intro ww hww; rw [hww]; clear hww ww
          refine Kw.WL_v rfl rfl rfl (Kw.R_assign rfl) ?_
          refine Kw.WL_nil ?_
          refine hK28 _ _ ?_; clear hK28 K28
          refine Kw.WC_seq (fun K29 hK29 => ?_)
          refine Kw.WC_seq (fun K30 hK30 => ?_)
          refine Kw.WC_region [some 30, some 31, some 32, some 33, some 34, some 35, some 36, some 37, some 38] rfl ?_
          refine Kw.WL_v rfl rfl rfl (Kw.R_move rfl) ?_
          refine Kw.WL_v rfl rfl rfl (Kw.R_move rfl) ?_
          refine Kw.WL_v rfl rfl rfl (Kw.R_add (c := (-9223372036854775808 + valR y)) rfl rfl (by rw [Kw.wrap_i64 (by omega)])) ?_
          refine Kw.WL_v rfl rfl rfl (Kw.R_quo (c := ((-9223372036854775808 + valR y).tdiv 10)) rfl rfl (by decide) (by rw [Kw.wrap_i64 (by omega)])) ?_
          by_cases cn : n < (-9223372036854775808 + valR y).tdiv 10
          ·
            refine Kw.WL_v rfl rfl rfl (Kw.R_lss (z := true) rfl rfl (decide_eq_true cn)) ?_
            refine Kw.WL_v rfl rfl rfl (Kw.R_move rfl) ?_
            refine Kw.WL_off rfl rfl rfl ?_
            refine Kw.WL_off rfl rfl rfl ?_
            refine Kw.WL_v rfl rfl rfl (Kw.R_pickt rfl rfl) ?_
            refine Kw.WL_nil ?_
            refine hK30 _ _ ?_; clear hK30 K30
            refine Kw.WC_sub (l' := [(0, .string s), (3, .int .i64 n), (4, .bool false), (5, .int .i64 (i : Int)), (24, .bool false), (6, .int .i64 (valR y)), (36, undef), (37, undef), (38, .bool true)]) (Kw.Sub.cons rfl (Kw.Sub.cons rfl (Kw.Sub.cons rfl (Kw.Sub.cons rfl (Kw.Sub.cons rfl (Kw.Sub.cons rfl (Kw.Sub.cons rfl (Kw.Sub.cons rfl (Kw.Sub.cons rfl Kw.Sub.nil))))))))) ?_
            refine Kw.WC_true rfl ?_
            refine Kw.WC_region [some 6, some 3] rfl ?_
            refine Kw.WL_v rfl rfl rfl (Kw.R_assign rfl) ?_
            refine Kw.WL_v rfl rfl rfl (Kw.R_assign rfl) ?_
            refine Kw.WL_nil ?_
            refine hK29 _ _ ?_; clear hK29 K29
            refine Kw.WC_region [some 39, some 40, some 41, some 42, some 3] rfl ?_
            refine Kw.WL_v rfl rfl rfl (Kw.R_move rfl) ?_
            refine Kw.WL_v rfl rfl rfl (Kw.R_mul (c := 0) rfl rfl (by rw [Kw.wrap_i64 (by omega)]; rfl)) ?_
            refine Kw.WL_v rfl rfl rfl (Kw.R_move rfl) ?_
            refine Kw.WL_v rfl rfl rfl (Kw.R_sub (c := 0) rfl rfl (by rw [Kw.wrap_i64 (by omega)]; rfl)) ?_
            refine Kw.WL_v rfl rfl rfl (Kw.R_assign rfl) ?_
            refine Kw.WL_nil ?_
            refine Kw.QN_block ?_
            refine hK25 _ _ ?_; clear hK25 K25
            refine Kw.WC_sub (l' := [(0, .string s), (3, .int .i64 0), (4, .bool false), (5, .int .i64 (i : Int)), (24, .bool false), (36, undef), (37, undef)]) (Kw.Sub.cons rfl (Kw.Sub.cons rfl (Kw.Sub.cons rfl (Kw.Sub.cons rfl (Kw.Sub.cons rfl (Kw.Sub.cons rfl (Kw.Sub.cons rfl Kw.Sub.nil))))))) ?_
            refine Kw.WC_region [some 19, some 20, some 5] rfl ?_
            refine Kw.WL_v rfl rfl rfl (Kw.R_move rfl) ?_
            refine Kw.WL_v rfl rfl rfl (Kw.R_add (c := ((i + 1 : Nat) : Int)) rfl rfl (by rw [Kw.wrap_i64 (by omega)]; omega)) ?_
            refine Kw.WL_v rfl rfl rfl (Kw.R_assign rfl) ?_
            refine Kw.WL_nil ?_
            refine Kw.QN_round ((i + 1, 0)) ⟨⟨by (try dsimp only); omega, by (try dsimp only); omega, by (try dsimp only); omega, by (try dsimp only); exact (by rw [take_snocL hi3, numF_snoc, ← hnF, ← hy]; unfold numS; rw [if_pos (.inl cn)])⟩, HB⟩ (by dsimp only; omega) (Kw.Sub.cons rfl (Kw.Sub.cons rfl (Kw.Sub.cons rfl (Kw.Sub.cons rfl Kw.Sub.nil))))
          ·
            refine Kw.WL_v rfl rfl rfl (Kw.R_lss (z := false) rfl rfl (decide_eq_false cn)) ?_
            refine Kw.WL_v rfl rfl rfl (Kw.R_move rfl) ?_
            refine Kw.WL_v rfl rfl rfl (Kw.R_move rfl) ?_
            by_cases cd : (9 : Int) < valR y
            ·
              refine Kw.WL_v rfl rfl rfl (Kw.R_gtr (z := true) rfl rfl (decide_eq_true cd)) ?_
              refine Kw.WL_v rfl rfl rfl (Kw.R_pickf rfl rfl) ?_
              refine Kw.WL_nil ?_
              refine hK30 _ _ ?_; clear hK30 K30
              refine Kw.WC_sub (l' := [(0, .string s), (3, .int .i64 n), (4, .bool false), (5, .int .i64 (i : Int)), (24, .bool false), (6, .int .i64 (valR y)), (36, .int .i64 (valR y)), (37, .bool true), (38, .bool true)]) (Kw.Sub.cons rfl (Kw.Sub.cons rfl (Kw.Sub.cons rfl (Kw.Sub.cons rfl (Kw.Sub.cons rfl (Kw.Sub.cons rfl (Kw.Sub.cons rfl (Kw.Sub.cons rfl (Kw.Sub.cons rfl Kw.Sub.nil))))))))) ?_
              refine Kw.WC_true rfl ?_
              refine Kw.WC_region [some 6, some 3] rfl ?_
              refine Kw.WL_v rfl rfl rfl (Kw.R_assign rfl) ?_
              refine Kw.WL_v rfl rfl rfl (Kw.R_assign rfl) ?_
              refine Kw.WL_nil ?_
              refine hK29 _ _ ?_; clear hK29 K29
              refine Kw.WC_region [some 39, some 40, some 41, some 42, some 3] rfl ?_
              refine Kw.WL_v rfl rfl rfl (Kw.R_move rfl) ?_
              refine Kw.WL_v rfl rfl rfl (Kw.R_mul (c := 0) rfl rfl (by rw [Kw.wrap_i64 (by omega)]; rfl)) ?_
              refine Kw.WL_v rfl rfl rfl (Kw.R_move rfl) ?_
              refine Kw.WL_v rfl rfl rfl (Kw.R_sub (c := 0) rfl rfl (by rw [Kw.wrap_i64 (by omega)]; rfl)) ?_
              refine Kw.WL_v rfl rfl rfl (Kw.R_assign rfl) ?_
              refine Kw.WL_nil ?_
              refine Kw.QN_block ?_
              refine hK25 _ _ ?_; clear hK25 K25
              refine Kw.WC_sub (l' := [(0, .string s), (3, .int .i64 0), (4, .bool false), (5, .int .i64 (i : Int)), (24, .bool false), (36, .int .i64 (valR y)), (37, .bool true)]) (Kw.Sub.cons rfl (Kw.Sub.cons rfl (Kw.Sub.cons rfl (Kw.Sub.cons rfl (Kw.Sub.cons rfl (Kw.Sub.cons rfl (Kw.Sub.cons rfl Kw.Sub.nil))))))) ?_
              refine Kw.WC_region [some 19, some 20, some 5] rfl ?_
              refine Kw.WL_v rfl rfl rfl (Kw.R_move rfl) ?_
              refine Kw.WL_v rfl rfl rfl (Kw.R_add (c := ((i + 1 : Nat) : Int)) rfl rfl (by rw [Kw.wrap_i64 (by omega)]; omega)) ?_
              refine Kw.WL_v rfl rfl rfl (Kw.R_assign rfl) ?_
              refine Kw.WL_nil ?_
              refine Kw.QN_round ((i + 1, 0)) ⟨⟨by (try dsimp only); omega, by (try dsimp only); omega, by (try dsimp only); omega, by (try dsimp only); exact (by rw [take_snocL hi3, numF_snoc, ← hnF, ← hy]; unfold numS; rw [if_pos (.inr cd)])⟩, HB⟩ (by dsimp only; omega) (Kw.Sub.cons rfl (Kw.Sub.cons rfl (Kw.Sub.cons rfl (Kw.Sub.cons rfl Kw.Sub.nil))))
            ·
              refine Kw.WL_v rfl rfl rfl (Kw.R_gtr (z := false) rfl rfl (decide_eq_false cd)) ?_
              refine Kw.WL_v rfl rfl rfl (Kw.R_pickf rfl rfl) ?_
              refine Kw.WL_nil ?_
              refine hK30 _ _ ?_; clear hK30 K30
              refine Kw.WC_sub (l' := [(0, .string s), (3, .int .i64 n), (4, .bool false), (5, .int .i64 (i : Int)), (24, .bool false), (6, .int .i64 (valR y)), (36, .int .i64 (valR y)), (37, .bool false), (38, .bool false)]) (Kw.Sub.cons rfl (Kw.Sub.cons rfl (Kw.Sub.cons rfl (Kw.Sub.cons rfl (Kw.Sub.cons rfl (Kw.Sub.cons rfl (Kw.Sub.cons rfl (Kw.Sub.cons rfl (Kw.Sub.cons rfl Kw.Sub.nil))))))))) ?_
              refine Kw.WC_false rfl ?_
              refine Kw.WC_skip ?_
              refine hK29 _ _ ?_; clear hK29 K29
              refine Kw.WC_region [some 39, some 40, some 41, some 42, some 3] rfl ?_
              refine Kw.WL_v rfl rfl rfl (Kw.R_move rfl) ?_
              refine Kw.WL_v rfl rfl rfl (Kw.R_mul (c := (n * 10)) rfl rfl (by rw [Kw.wrap_i64 (by omega)])) ?_
              refine Kw.WL_v rfl rfl rfl (Kw.R_move rfl) ?_
              refine Kw.WL_v rfl rfl rfl (Kw.R_sub (c := (n * 10 - valR y)) rfl rfl (by rw [Kw.wrap_i64 (by omega)])) ?_
              refine Kw.WL_v rfl rfl rfl (Kw.R_assign rfl) ?_
              refine Kw.WL_nil ?_
              refine Kw.QN_block ?_
              refine hK25 _ _ ?_; clear hK25 K25
              refine Kw.WC_sub (l' := [(0, .string s), (3, .int .i64 (n * 10 - valR y)), (4, .bool false), (5, .int .i64 (i : Int)), (24, .bool false), (36, .int .i64 (valR y)), (37, .bool false)]) (Kw.Sub.cons rfl (Kw.Sub.cons rfl (Kw.Sub.cons rfl (Kw.Sub.cons rfl (Kw.Sub.cons rfl (Kw.Sub.cons rfl (Kw.Sub.cons rfl Kw.Sub.nil))))))) ?_
              refine Kw.WC_region [some 19, some 20, some 5] rfl ?_
              refine Kw.WL_v rfl rfl rfl (Kw.R_move rfl) ?_
              refine Kw.WL_v rfl rfl rfl (Kw.R_add (c := ((i + 1 : Nat) : Int)) rfl rfl (by rw [Kw.wrap_i64 (by omega)]; omega)) ?_
              refine Kw.WL_v rfl rfl rfl (Kw.R_assign rfl) ?_
              refine Kw.WL_nil ?_
              refine Kw.QN_round ((i + 1, (n * 10 - valR y))) ⟨⟨by (try dsimp only); omega, by (try dsimp only); omega, by (try dsimp only); omega, by (try dsimp only); exact (by rw [take_snocL hi3, numF_snoc, ← hnF, ← hy]; unfold numS; rw [if_neg (by omega)])⟩, HB⟩ (by dsimp only; omega) (Kw.Sub.cons rfl (Kw.Sub.cons rfl (Kw.Sub.cons rfl (Kw.Sub.cons rfl Kw.Sub.nil))))
        ·
          refine Kw.WL_v rfl rfl rfl (Kw.R_eqi (z := false) rfl rfl (decide_eq_false ci)) ?_
          refine Kw.WL_v rfl rfl rfl (Kw.R_move rfl) ?_
          refine Kw.WL_off rfl rfl rfl ?_
          refine Kw.WL_v rfl rfl rfl (Kw.R_pickf rfl rfl) ?_
          refine Kw.WL_nil ?_
          refine hK27 _ _ ?_; clear hK27 K27
          refine Kw.WC_sub (l' := [(0, .string s), (3, .int .i64 n), (4, .bool false), (5, .int .i64 (i : Int)), (24, undef), (25, .bool false)]) (Kw.Sub.cons rfl (Kw.Sub.cons rfl (Kw.Sub.cons rfl (Kw.Sub.cons rfl (Kw.Sub.cons rfl (Kw.Sub.cons rfl Kw.Sub.nil)))))) ?_
          refine Kw.WC_false rfl ?_
          refine Kw.WC_skip ?_
          refine hK26 _ _ ?_; clear hK26 K26
          refine Kw.WC_seq (fun K31 hK31 => ?_)
          refine Kw.WC_region [some 26, some 27, some 28, some 29, some 6] rfl ?_
          refine Kw.WL_v rfl rfl rfl (Kw.R_move rfl) ?_
          refine Kw.WL_v rfl rfl rfl (Kw.R_move rfl) ?_
          refine Kw.WL_v rfl rfl rfl (Kw.R_indexb (i := i) (c := ((y.toNat : Nat) : Int)) Tryd.underlying9 rfl rfl (by rw [← size_list]; exact hi3) (by rw [byt_list s i hi3, ← hy])) ?_
          refine Kw.WL_callc rfl rfl rfl rfl F.cl46 rfl (value_c y w21) ?_; intro ww hww; rw [hww]; clear hww ww
          refine Kw.WL_v rfl rfl rfl (Kw.R_assign rfl) ?_
          refine Kw.WL_nil ?_
          refine hK31 _ _ ?_; clear hK31 K31
          refine Kw.WC_seq (fun K32 hK32 => ?_)
          refine Kw.WC_seq (fun K33 hK33 => ?_)
          refine Kw.WC_region [some 30, some 31, some 32, some 33, some 34, some 35, some 36, some 37, some 38] rfl ?_
          refine Kw.WL_v rfl rfl rfl (Kw.R_move rfl) ?_
          refine Kw.WL_v rfl rfl rfl (Kw.R_move rfl) ?_
          refine Kw.WL_v rfl rfl rfl (Kw.R_add (c := (-9223372036854775808 + valR y)) rfl rfl (by rw [Kw.wrap_i64 (by omega)])) ?_
          refine Kw.WL_v rfl rfl rfl (Kw.R_quo (c := ((-9223372036854775808 + valR y).tdiv 10)) rfl rfl (by decide) (by rw [Kw.wrap_i64 (by omega)])) ?_
          by_cases cn : n < (-9223372036854775808 + valR y).tdiv 10
          ·
            refine Kw.WL_v rfl rfl rfl (Kw.R_lss (z := true) rfl rfl (decide_eq_true cn)) ?_
            refine Kw.WL_v rfl rfl rfl (Kw.R_move rfl) ?_
            refine Kw.WL_off rfl rfl rfl ?_
            refine Kw.WL_off rfl rfl rfl ?_
            refine Kw.WL_v rfl rfl rfl (Kw.R_pickt rfl rfl) ?_
            refine Kw.WL_nil ?_
            refine hK33 _ _ ?_; clear hK33 K33
            refine Kw.WC_sub (l' := [(0, .string s), (3, .int .i64 n), (4, .bool false), (5, .int .i64 (i : Int)), (24, undef), (6, .int .i64 (valR y)), (36, undef), (37, undef), (38, .bool true)]) (Kw.Sub.cons rfl (Kw.Sub.cons rfl (Kw.Sub.cons rfl (Kw.Sub.cons rfl (Kw.Sub.cons rfl (Kw.Sub.cons rfl (Kw.Sub.cons rfl (Kw.Sub.cons rfl (Kw.Sub.cons rfl Kw.Sub.nil))))))))) ?_
            refine Kw.WC_true rfl ?_
            refine Kw.WC_region [some 6, some 3] rfl ?_
            refine Kw.WL_v rfl rfl rfl (Kw.R_assign rfl) ?_
            refine Kw.WL_v rfl rfl rfl (Kw.R_assign rfl) ?_
            refine Kw.WL_nil ?_
            refine hK32 _ _ ?_; clear hK32 K32
            refine Kw.WC_region [some 39, some 40, some 41, some 42, some 3] rfl ?_
            refine Kw.WL_v rfl rfl rfl (Kw.R_move rfl) ?_
            refine Kw.WL_v rfl rfl rfl (Kw.R_mul (c := 0) rfl rfl (by rw [Kw.wrap_i64 (by omega)]; rfl)) ?_
            refine Kw.WL_v rfl rfl rfl (Kw.R_move rfl) ?_
            refine Kw.WL_v rfl rfl rfl (Kw.R_sub (c := 0) rfl rfl (by rw [Kw.wrap_i64 (by omega)]; rfl)) ?_
            refine Kw.WL_v rfl rfl rfl (Kw.R_assign rfl) ?_
            refine Kw.WL_nil ?_
            refine Kw.QN_block ?_
            refine hK25 _ _ ?_; clear hK25 K25
            refine Kw.WC_sub (l' := [(0, .string s), (3, .int .i64 0), (4, .bool false), (5, .int .i64 (i : Int)), (24, undef), (36, undef), (37, undef)]) (Kw.Sub.cons rfl (Kw.Sub.cons rfl (Kw.Sub.cons rfl (Kw.Sub.cons rfl (Kw.Sub.cons rfl (Kw.Sub.cons rfl (Kw.Sub.cons rfl Kw.Sub.nil))))))) ?_
            refine Kw.WC_region [some 19, some 20, some 5] rfl ?_
            refine Kw.WL_v rfl rfl rfl (Kw.R_move rfl) ?_
            refine Kw.WL_v rfl rfl rfl (Kw.R_add (c := ((i + 1 : Nat) : Int)) rfl rfl (by rw [Kw.wrap_i64 (by omega)]; omega)) ?_
            refine Kw.WL_v rfl rfl rfl (Kw.R_assign rfl) ?_
            refine Kw.WL_nil ?_
            refine Kw.QN_round ((i + 1, 0)) ⟨⟨by (try dsimp only); omega, by (try dsimp only); omega, by (try dsimp only); omega, by (try dsimp only); exact (by rw [take_snocL hi3, numF_snoc, ← hnF, ← hy]; unfold numS; rw [if_pos (.inl cn)])⟩, HB⟩ (by dsimp only; omega) (Kw.Sub.cons rfl (Kw.Sub.cons rfl (Kw.Sub.cons rfl (Kw.Sub.cons rfl Kw.Sub.nil))))
          ·
            refine Kw.WL_v rfl rfl rfl (Kw.R_lss (z := false) rfl rfl (decide_eq_false cn)) ?_
            refine Kw.WL_v rfl rfl rfl (Kw.R_move rfl) ?_
            refine Kw.WL_v rfl rfl rfl (Kw.R_move rfl) ?_
            by_cases cd : (9 : Int) < valR y
            ·
              refine Kw.WL_v rfl rfl rfl (Kw.R_gtr (z := true) rfl rfl (decide_eq_true cd)) ?_
              refine Kw.WL_v rfl rfl rfl (Kw.R_pickf rfl rfl) ?_
              refine Kw.WL_nil ?_
              refine hK33 _ _ ?_; clear hK33 K33
              refine Kw.WC_sub (l' := [(0, .string s), (3, .int .i64 n), (4, .bool false), (5, .int .i64 (i : Int)), (24, undef), (6, .int .i64 (valR y)), (36, .int .i64 (valR y)), (37, .bool true), (38, .bool true)]) (Kw.Sub.cons rfl (Kw.Sub.cons rfl (Kw.Sub.cons rfl (Kw.Sub.cons rfl (Kw.Sub.cons rfl (Kw.Sub.cons rfl (Kw.Sub.cons rfl (Kw.Sub.cons rfl (Kw.Sub.cons rfl Kw.Sub.nil))))))))) ?_
              refine Kw.WC_true rfl ?_
              refine Kw.WC_region [some 6, some 3] rfl ?_
              refine Kw.WL_v rfl rfl rfl (Kw.R_assign rfl) ?_
              refine Kw.WL_v rfl rfl rfl (Kw.R_assign rfl) ?_
              refine Kw.WL_nil ?_
              refine hK32 _ _ ?_; clear hK32 K32
              refine Kw.WC_region [some 39, some 40, some 41, some 42, some 3] rfl ?_
              refine Kw.WL_v rfl rfl rfl (Kw.R_move rfl) ?_
              refine Kw.WL_v rfl rfl rfl (Kw.R_mul (c := 0) rfl rfl (by rw [Kw.wrap_i64 (by omega)]; rfl)) ?_
              refine Kw.WL_v rfl rfl rfl (Kw.R_move rfl) ?_
              refine Kw.WL_v rfl rfl rfl (Kw.R_sub (c := 0) rfl rfl (by rw [Kw.wrap_i64 (by omega)]; rfl)) ?_
              refine Kw.WL_v rfl rfl rfl (Kw.R_assign rfl) ?_
              refine Kw.WL_nil ?_
              refine Kw.QN_block ?_
              refine hK25 _ _ ?_; clear hK25 K25
              refine Kw.WC_sub (l' := [(0, .string s), (3, .int .i64 0), (4, .bool false), (5, .int .i64 (i : Int)), (24, undef), (36, .int .i64 (valR y)), (37, .bool true)]) (Kw.Sub.cons rfl (Kw.Sub.cons rfl (Kw.Sub.cons rfl (Kw.Sub.cons rfl (Kw.Sub.cons rfl (Kw.Sub.cons rfl (Kw.Sub.cons rfl Kw.Sub.nil))))))) ?_
              refine Kw.WC_region [some 19, some 20, some 5] rfl ?_
              refine Kw.WL_v rfl rfl rfl (Kw.R_move rfl) ?_
              refine Kw.WL_v rfl rfl rfl (Kw.R_add (c := ((i + 1 : Nat) : Int)) rfl rfl (by rw [Kw.wrap_i64 (by omega)]; omega)) ?_
              refine Kw.WL_v rfl rfl rfl (Kw.R_assign rfl) ?_
              refine Kw.WL_nil ?_
              refine Kw.QN_round ((i + 1, 0)) ⟨⟨by (try dsimp only); omega, by (try dsimp only); omega, by (try dsimp only); omega, by (try dsimp only); exact (by rw [take_snocL hi3, numF_snoc, ← hnF, ← hy]; unfold numS; rw [if_pos (.inr cd)])⟩, HB⟩ (by dsimp only; omega) (Kw.Sub.cons rfl (Kw.Sub.cons rfl (Kw.Sub.cons rfl (Kw.Sub.cons rfl Kw.Sub.nil))))
            ·
              refine Kw.WL_v rfl rfl rfl (Kw.R_gtr (z := false) rfl rfl (decide_eq_false cd)) ?_
              refine Kw.WL_v rfl rfl rfl (Kw.R_pickf rfl rfl) ?_
              refine Kw.WL_nil ?_
              refine hK33 _ _ ?_; clear hK33 K33
              refine Kw.WC_sub (l' := [(0, .string s), (3, .int .i64 n), (4, .bool false), (5, .int .i64 (i : Int)), (24, undef), (6, .int .i64 (valR y)), (36, .int .i64 (valR y)), (37, .bool false), (38, .bool false)]) (Kw.Sub.cons rfl (Kw.Sub.cons rfl (Kw.Sub.cons rfl (Kw.Sub.cons rfl (Kw.Sub.cons rfl (Kw.Sub.cons rfl (Kw.Sub.cons rfl (Kw.Sub.cons rfl (Kw.Sub.cons rfl Kw.Sub.nil))))))))) ?_
              refine Kw.WC_false rfl ?_
              refine Kw.WC_skip ?_
              refine hK32 _ _ ?_; clear hK32 K32
              refine Kw.WC_region [some 39, some 40, some 41, some 42, some 3] rfl ?_
              refine Kw.WL_v rfl rfl rfl (Kw.R_move rfl) ?_
              refine Kw.WL_v rfl rfl rfl (Kw.R_mul (c := (n * 10)) rfl rfl (by rw [Kw.wrap_i64 (by omega)])) ?_
              refine Kw.WL_v rfl rfl rfl (Kw.R_move rfl) ?_
              refine Kw.WL_v rfl rfl rfl (Kw.R_sub (c := (n * 10 - valR y)) rfl rfl (by rw [Kw.wrap_i64 (by omega)])) ?_
              refine Kw.WL_v rfl rfl rfl (Kw.R_assign rfl) ?_
              refine Kw.WL_nil ?_
              refine Kw.QN_block ?_
              refine hK25 _ _ ?_; clear hK25 K25
              refine Kw.WC_sub (l' := [(0, .string s), (3, .int .i64 (n * 10 - valR y)), (4, .bool false), (5, .int .i64 (i : Int)), (24, undef), (36, .int .i64 (valR y)), (37, .bool false)]) (Kw.Sub.cons rfl (Kw.Sub.cons rfl (Kw.Sub.cons rfl (Kw.Sub.cons rfl (Kw.Sub.cons rfl (Kw.Sub.cons rfl (Kw.Sub.cons rfl Kw.Sub.nil))))))) ?_
              refine Kw.WC_region [some 19, some 20, some 5] rfl ?_
              refine Kw.WL_v rfl rfl rfl (Kw.R_move rfl) ?_
              refine Kw.WL_v rfl rfl rfl (Kw.R_add (c := ((i + 1 : Nat) : Int)) rfl rfl (by rw [Kw.wrap_i64 (by omega)]; omega)) ?_
              refine Kw.WL_v rfl rfl rfl (Kw.R_assign rfl) ?_
              refine Kw.WL_nil ?_
              refine Kw.QN_round ((i + 1, (n * 10 - valR y))) ⟨⟨by (try dsimp only); omega, by (try dsimp only); omega, by (try dsimp only); omega, by (try dsimp only); exact (by rw [take_snocL hi3, numF_snoc, ← hnF, ← hy]; unfold numS; rw [if_neg (by omega)])⟩, HB⟩ (by dsimp only; omega) (Kw.Sub.cons rfl (Kw.Sub.cons rfl (Kw.Sub.cons rfl (Kw.Sub.cons rfl Kw.Sub.nil))))
      ·
        refine Kw.WL_v rfl rfl rfl (Kw.R_lss (z := false) rfl rfl (decide_eq_false c24)) ?_
        rw [List.take_of_length_le (by rw [size_list]; omega)] at hnF
        refine Kw.WL_nil ?_
        refine hK23 _ _ ?_; clear hK23 K23
        refine Kw.WC_false rfl ?_
        refine Kw.WC_exit ?_
        refine Kw.QE_then ?_; clear hK22 K22
        refine Kw.QE_then ?_
        refine Kw.QE_here ?_
        refine hK19 _ _ ?_; clear hK19 K19
        refine Kw.WC_sub (l' := [(3, .int .i64 n), (4, .bool false)]) (Kw.Sub.cons rfl (Kw.Sub.cons rfl Kw.Sub.nil)) ?_
        refine Kw.WC_seq (fun K34 hK34 => ?_)
        refine Kw.WC_seq (fun K35 hK35 => ?_)
        refine Kw.WC_region [some 43] rfl ?_
        refine Kw.WL_v rfl rfl rfl (Kw.R_move rfl) ?_
        refine Kw.WL_nil ?_
        refine hK35 _ _ ?_; clear hK35 K35
        refine Kw.WC_false rfl ?_
        refine Kw.WC_skip ?_
        refine hK34 _ _ ?_; clear hK34 K34
        refine Kw.WC_seq (fun K36 hK36 => ?_)
        refine Kw.WC_region [some 45, some 46, some 2] rfl ?_
        refine Kw.WL_v rfl rfl rfl (Kw.R_move rfl) ?_
        refine Kw.WL_v rfl rfl rfl (Kw.R_neg (c := IntKind.i64.wrap (0 - n)) rfl rfl) ?_
        refine Kw.WL_v rfl rfl rfl (Kw.R_assign rfl) ?_
        refine Kw.WL_nil ?_
        refine hK36 _ _ ?_; clear hK36 K36
        refine Kw.WC_ret ?_
        exact Kw.post_ret1 rfl rfl ⟨by unfold numR; rw [if_neg hmz, hnF], HB⟩
  ·
    refine Kw.WL_v rfl rfl rfl (Kw.R_gtr (z := false) rfl rfl (decide_eq_false cz)) ?_
    have hmz : s.data.toList.head? ≠ some 45 := by
      have : s.data.toList = [] := List.eq_nil_of_length_eq_zero (by rw [size_list]; omega)
      rw [this]; intro h; cases h
    refine Kw.WL_v rfl rfl rfl (Kw.R_move rfl) ?_
    refine Kw.WL_off rfl rfl rfl ?_
    refine Kw.WL_off rfl rfl rfl ?_
    refine Kw.WL_off rfl rfl rfl ?_
    refine Kw.WL_v rfl rfl rfl (Kw.R_pickf rfl rfl) ?_
    refine Kw.WL_v rfl rfl rfl (Kw.R_assign rfl) ?_
    refine Kw.WL_nil ?_
    refine hK3 _ _ ?_; clear hK3 K3
    refine Kw.WC_sub (l' := [(0, .string s), (3, .int .i64 0), (4, .bool false)]) (Kw.Sub.cons rfl (Kw.Sub.cons rfl (Kw.Sub.cons rfl Kw.Sub.nil))) ?_
    refine Kw.WC_seq (fun K37 hK37 => ?_)
    refine Kw.WC_seq (fun K38 hK38 => ?_)
    refine Kw.WC_region [some 5] rfl ?_
    refine Kw.WL_v rfl rfl rfl (Kw.R_assign rfl) ?_
    refine Kw.WL_nil ?_
    refine hK38 _ _ ?_; clear hK38 K38
    refine Kw.WC_block ?_
    refine Kw.WC_loop (ι := Nat × Int) (fun (q : Nat × Int) (ww : World) => match q with | ⟨i, n⟩ => (i ≤ s.size ∧ -9223372036854775808 ≤ n ∧ n ≤ 0 ∧ n = numF (s.data.toList.take i)) ∧ ww = w) (fun (q : Nat × Int) => match q with | ⟨i, n⟩ => [(0, .string s), (3, .int .i64 n), (4, .bool false), (5, .int .i64 (i : Int))]) (fun (q : Nat × Int) => match q with | ⟨i, n⟩ => s.size - i) (0, 0) ⟨⟨Nat.zero_le _, by omega, Int.le_refl _, rfl⟩, HB⟩ (Kw.Sub.cons rfl (Kw.Sub.cons rfl (Kw.Sub.cons rfl (Kw.Sub.cons rfl Kw.Sub.nil)))) ?_
    clear HB
    rintro ⟨i, n⟩ w39 ⟨⟨hi, hn1, hn2, hnF⟩, HB⟩
    dsimp only at *
    refine Kw.WC_seq (fun K40 hK40 => ?_)
    refine Kw.WC_seq (fun K41 hK41 => ?_)
    refine Kw.WC_region [some 15, some 16, some 17, some 18] rfl ?_
    refine Kw.WL_v rfl rfl rfl (Kw.R_move rfl) ?_
    refine Kw.WL_v rfl rfl rfl (Kw.R_move rfl) ?_
    refine Kw.WL_v rfl rfl rfl (Kw.R_lens Tryd.underlying9 rfl) ?_
    by_cases c42 : (i : Int) < (s.size : Int)
    ·
      refine Kw.WL_v rfl rfl rfl (Kw.R_lss (z := true) rfl rfl (decide_eq_true c42)) ?_
      have hi3 : i < s.data.toList.length := by rw [size_list]; omega
      obtain ⟨y, hy⟩ : ∃ y, y = s.data.toList[i]'hi3 := ⟨_, rfl⟩
      have hvr := valR_range y
      have hqb := quo_b hvr
      refine Kw.WL_nil ?_
      refine hK41 _ _ ?_; clear hK41 K41
      refine Kw.WC_true rfl ?_
      refine Kw.WC_skip ?_
      refine hK40 _ _ ?_; clear hK40 K40
      refine Kw.WC_seq (fun K43 hK43 => ?_)
      refine Kw.WC_block ?_
      refine Kw.WC_seq (fun K44 hK44 => ?_)
      refine Kw.WC_seq (fun K45 hK45 => ?_)
      refine Kw.WC_region [some 21, some 22, some 23, some 24, some 25] rfl ?_
      refine Kw.WL_v rfl rfl rfl (Kw.R_move rfl) ?_
      by_cases ci : (i : Int) = 0
      ·
        refine Kw.WL_v rfl rfl rfl (Kw.R_eqi (z := true) rfl rfl (decide_eq_true ci)) ?_
        refine Kw.WL_v rfl rfl rfl (Kw.R_move rfl) ?_
        refine Kw.WL_v rfl rfl rfl (Kw.R_move rfl) ?_
        refine Kw.WL_v rfl rfl rfl (Kw.R_pickt rfl rfl) ?_
        refine Kw.WL_nil ?_
        refine hK45 _ _ ?_; clear hK45 K45
        refine Kw.WC_sub (l' := [(0, .string s), (3, .int .i64 n), (4, .bool false), (5, .int .i64 (i : Int)), (24, .bool false), (25, .bool false)]) (Kw.Sub.cons rfl (Kw.Sub.cons rfl (Kw.Sub.cons rfl (Kw.Sub.cons rfl (Kw.Sub.cons rfl (Kw.Sub.cons rfl Kw.Sub.nil)))))) ?_
        refine Kw.WC_false rfl ?_
        refine Kw.WC_skip ?_
        refine hK44 _ _ ?_; clear hK44 K44
        refine Kw.WC_seq (fun K46 hK46 => ?_)
        refine Kw.WC_region [some 26, some 27, some 28, some 29, some 6] rfl ?_
        refine Kw.WL_v rfl rfl rfl (Kw.R_move rfl) ?_
        refine Kw.WL_v rfl rfl rfl (Kw.R_move rfl) ?_
        refine Kw.WL_v rfl rfl rfl (Kw.R_indexb (i := i) (c := ((y.toNat : Nat) : Int)) Tryd.underlying9 rfl rfl (by rw [← size_list]; exact hi3) (by rw [byt_list s i hi3, ← hy])) ?_
        refine Kw.WL_callc rfl rfl rfl rfl F.cl46 rfl (value_c y w39) ?_; intro ww hww; rw [hww]; clear hww ww
        refine Kw.WL_v rfl rfl rfl (Kw.R_assign rfl) ?_
        refine Kw.WL_nil ?_
        refine hK46 _ _ ?_; clear hK46 K46
        refine Kw.WC_seq (fun K47 hK47 => ?_)
        refine Kw.WC_seq (fun K48 hK48 => ?_)
        refine Kw.WC_region [some 30, some 31, some 32, some 33, some 34, some 35, some 36, some 37, some 38] rfl ?_
        refine Kw.WL_v rfl rfl rfl (Kw.R_move rfl) ?_
        refine Kw.WL_v rfl rfl rfl (Kw.R_move rfl) ?_
        refine Kw.WL_v rfl rfl rfl (Kw.R_add (c := (-9223372036854775808 + valR y)) rfl rfl (by rw [Kw.wrap_i64 (by omega)])) ?_
        refine Kw.WL_v rfl rfl rfl (Kw.R_quo (c := ((-9223372036854775808 + valR y).tdiv 10)) rfl rfl (by decide) (by rw [Kw.wrap_i64 (by omega)])) ?_
        by_cases cn : n < (-9223372036854775808 + valR y).tdiv 10
        ·
          refine Kw.WL_v rfl rfl rfl (Kw.R_lss (z := true) rfl rfl (decide_eq_true cn)) ?_
          refine Kw.WL_v rfl rfl rfl (Kw.R_move rfl) ?_
          refine Kw.WL_off rfl rfl rfl ?_
          refine Kw.WL_off rfl rfl rfl ?_
          refine Kw.WL_v rfl rfl rfl (Kw.R_pickt rfl rfl) ?_
          refine Kw.WL_nil ?_
          refine hK48 _ _ ?_; clear hK48 K48
          refine Kw.WC_sub (l' := [(0, .string s), (3, .int .i64 n), (4, .bool false), (5, .int .i64 (i : Int)), (24, .bool false), (6, .int .i64 (valR y)), (36, undef), (37, undef), (38, .bool true)]) (Kw.Sub.cons rfl (Kw.Sub.cons rfl (Kw.Sub.cons rfl (Kw.Sub.cons rfl (Kw.Sub.cons rfl (Kw.Sub.cons rfl (Kw.Sub.cons rfl (Kw.Sub.cons rfl (Kw.Sub.cons rfl Kw.Sub.nil))))))))) ?_
          refine Kw.WC_true rfl ?_
          refine Kw.WC_region [some 6, some 3] rfl ?_
          refine Kw.WL_v rfl rfl rfl (Kw.R_assign rfl) ?_
          refine Kw.WL_v rfl rfl rfl (Kw.R_assign rfl) ?_
          refine Kw.WL_nil ?_
          refine hK47 _ _ ?_; clear hK47 K47
          refine Kw.WC_region [some 39, some 40, some 41, some 42, some 3] rfl ?_
          refine Kw.WL_v rfl rfl rfl (Kw.R_move rfl) ?_
          refine Kw.WL_v rfl rfl rfl (Kw.R_mul (c := 0) rfl rfl (by rw [Kw.wrap_i64 (by omega)]; rfl)) ?_
          refine Kw.WL_v rfl rfl rfl (Kw.R_move rfl) ?_
          refine Kw.WL_v rfl rfl rfl (Kw.R_sub (c := 0) rfl rfl (by rw [Kw.wrap_i64 (by omega)]; rfl)) ?_
          refine Kw.WL_v rfl rfl rfl (Kw.R_assign rfl) ?_
          refine Kw.WL_nil ?_
          refine Kw.QN_block ?_
          refine hK43 _ _ ?_; clear hK43 K43
          refine Kw.WC_sub (l' := [(0, .string s), (3, .int .i64 0), (4, .bool false), (5, .int .i64 (i : Int)), (24, .bool false), (36, undef), (37, undef)]) (Kw.Sub.cons rfl (Kw.Sub.cons rfl (Kw.Sub.cons rfl (Kw.Sub.cons rfl (Kw.Sub.cons rfl (Kw.Sub.cons rfl (Kw.Sub.cons rfl Kw.Sub.nil))))))) ?_
          refine Kw.WC_region [some 19, some 20, some 5] rfl ?_
          refine Kw.WL_v rfl rfl rfl (Kw.R_move rfl) ?_
          refine Kw.WL_v rfl rfl rfl (Kw.R_add (c := ((i + 1 : Nat) : Int)) rfl rfl (by rw [Kw.wrap_i64 (by omega)]; omega)) ?_
          refine Kw.WL_v rfl rfl rfl (Kw.R_assign rfl) ?_
          refine Kw.WL_nil ?_
          refine Kw.QN_round ((i + 1, 0)) ⟨⟨by (try dsimp only); omega, by (try dsimp only); omega, by (try dsimp only); omega, by (try dsimp only); exact (by rw [take_snocL hi3, numF_snoc, ← hnF, ← hy]; unfold numS; rw [if_pos (.inl cn)])⟩, HB⟩ (by dsimp only; omega) (Kw.Sub.cons rfl (Kw.Sub.cons rfl (Kw.Sub.cons rfl (Kw.Sub.cons rfl Kw.Sub.nil))))
        ·
          refine Kw.WL_v rfl rfl rfl (Kw.R_lss (z := false) rfl rfl (decide_eq_false cn)) ?_
          refine Kw.WL_v rfl rfl rfl (Kw.R_move rfl) ?_
          refine Kw.WL_v rfl rfl rfl (Kw.R_move rfl) ?_
          by_cases cd : (9 : Int) < valR y
          ·
            refine Kw.WL_v rfl rfl rfl (Kw.R_gtr (z := true) rfl rfl (decide_eq_true cd)) ?_
            refine Kw.WL_v rfl rfl rfl (Kw.R_pickf rfl rfl) ?_
            refine Kw.WL_nil ?_
            refine hK48 _ _ ?_; clear hK48 K48
            refine Kw.WC_sub (l' := [(0, .string s), (3, .int .i64 n), (4, .bool false), (5, .int .i64 (i : Int)), (24, .bool false), (6, .int .i64 (valR y)), (36, .int .i64 (valR y)), (37, .bool true), (38, .bool true)]) (Kw.Sub.cons rfl (Kw.Sub.cons rfl (Kw.Sub.cons rfl (Kw.Sub.cons rfl (Kw.Sub.cons rfl (Kw.Sub.cons rfl (Kw.Sub.cons rfl (Kw.Sub.cons rfl (Kw.Sub.cons rfl Kw.Sub.nil))))))))) ?_
            refine Kw.WC_true rfl ?_
            refine Kw.WC_region [some 6, some 3] rfl ?_
            refine Kw.WL_v rfl rfl rfl (Kw.R_assign rfl) ?_
            refine Kw.WL_v rfl rfl rfl (Kw.R_assign rfl) ?_
            refine Kw.WL_nil ?_
            refine hK47 _ _ ?_; clear hK47 K47
            refine Kw.WC_region [some 39, some 40, some 41, some 42, some 3] rfl ?_
            refine Kw.WL_v rfl rfl rfl (Kw.R_move rfl) ?_
            refine Kw.WL_v rfl rfl rfl (Kw.R_mul (c := 0) rfl rfl (by rw [Kw.wrap_i64 (by omega)]; rfl)) ?_
            refine Kw.WL_v rfl rfl rfl (Kw.R_move rfl) ?_
            refine Kw.WL_v rfl rfl rfl (Kw.R_sub (c := 0) rfl rfl (by rw [Kw.wrap_i64 (by omega)]; rfl)) ?_
            refine Kw.WL_v rfl rfl rfl (Kw.R_assign rfl) ?_
            refine Kw.WL_nil ?_
            refine Kw.QN_block ?_
            refine hK43 _ _ ?_; clear hK43 K43
            refine Kw.WC_sub (l' := [(0, .string s), (3, .int .i64 0), (4, .bool false), (5, .int .i64 (i : Int)), (24, .bool false), (36, .int .i64 (valR y)), (37, .bool true)]) (Kw.Sub.cons rfl (Kw.Sub.cons rfl (Kw.Sub.cons rfl (Kw.Sub.cons rfl (Kw.Sub.cons rfl (Kw.Sub.cons rfl (Kw.Sub.cons rfl Kw.Sub.nil))))))) ?_
            refine Kw.WC_region [some 19, some 20, some 5] rfl ?_
            refine Kw.WL_v rfl rfl rfl (Kw.R_move rfl) ?_
            refine Kw.WL_v rfl rfl rfl (Kw.R_add (c := ((i + 1 : Nat) : Int)) rfl rfl (by rw [Kw.wrap_i64 (by omega)]; omega)) ?_
            refine Kw.WL_v rfl rfl rfl (Kw.R_assign rfl) ?_
            refine Kw.WL_nil ?_
            refine Kw.QN_round ((i + 1, 0)) ⟨⟨by (try dsimp only); omega, by (try dsimp only); omega, by (try dsimp only); omega, by (try dsimp only); exact (by rw [take_snocL hi3, numF_snoc, ← hnF, ← hy]; unfold numS; rw [if_pos (.inr cd)])⟩, HB⟩ (by dsimp only; omega) (Kw.Sub.cons rfl (Kw.Sub.cons rfl (Kw.Sub.cons rfl (Kw.Sub.cons rfl Kw.Sub.nil))))
          ·
            refine Kw.WL_v rfl rfl rfl (Kw.R_gtr (z := false) rfl rfl (decide_eq_false cd)) ?_
            refine Kw.WL_v rfl rfl rfl (Kw.R_pickf rfl rfl) ?_
            refine Kw.WL_nil ?_
            refine hK48 _ _ ?_; clear hK48 K48
            refine Kw.WC_sub (l' := [(0, .string s), (3, .int .i64 n), (4, .bool false), (5, .int .i64 (i : Int)), (24, .bool false), (6, .int .i64 (valR y)), (36, .int .i64 (valR y)), (37, .bool false), (38, .bool false)]) (Kw.Sub.cons rfl (Kw.Sub.cons rfl (Kw.Sub.cons rfl (Kw.Sub.cons rfl (Kw.Sub.cons rfl (Kw.Sub.cons rfl (Kw.Sub.cons rfl (Kw.Sub.cons rfl (Kw.Sub.cons rfl Kw.Sub.nil))))))))) ?_
            refine Kw.WC_false rfl ?_
            refine Kw.WC_skip ?_
            refine hK47 _ _ ?_; clear hK47 K47
            refine Kw.WC_region [some 39, some 40, some 41, some 42, some 3] rfl ?_
            refine Kw.WL_v rfl rfl rfl (Kw.R_move rfl) ?_
            refine Kw.WL_v rfl rfl rfl (Kw.R_mul (c := (n * 10)) rfl rfl (by rw [Kw.wrap_i64 (by omega)])) ?_
            refine Kw.WL_v rfl rfl rfl (Kw.R_move rfl) ?_
            refine Kw.WL_v rfl rfl rfl (Kw.R_sub (c := (n * 10 - valR y)) rfl rfl (by rw [Kw.wrap_i64 (by omega)])) ?_
            refine Kw.WL_v rfl rfl rfl (Kw.R_assign rfl) ?_
            refine Kw.WL_nil ?_
            refine Kw.QN_block ?_
            refine hK43 _ _ ?_; clear hK43 K43
            refine Kw.WC_sub (l' := [(0, .string s), (3, .int .i64 (n * 10 - valR y)), (4, .bool false), (5, .int .i64 (i : Int)), (24, .bool false), (36, .int .i64 (valR y)), (37, .bool false)]) (Kw.Sub.cons rfl (Kw.Sub.cons rfl (Kw.Sub.cons rfl (Kw.Sub.cons rfl (Kw.Sub.cons rfl (Kw.Sub.cons rfl (Kw.Sub.cons rfl Kw.Sub.nil))))))) ?_
            refine Kw.WC_region [some 19, some 20, some 5] rfl ?_
            refine Kw.WL_v rfl rfl rfl (Kw.R_move rfl) ?_
            refine Kw.WL_v rfl rfl rfl (Kw.R_add (c := ((i + 1 : Nat) : Int)) rfl rfl (by rw [Kw.wrap_i64 (by omega)]; omega)) ?_
            refine Kw.WL_v rfl rfl rfl (Kw.R_assign rfl) ?_
            refine Kw.WL_nil ?_
            refine Kw.QN_round ((i + 1, (n * 10 - valR y))) ⟨⟨by (try dsimp only); omega, by (try dsimp only); omega, by (try dsimp only); omega, by (try dsimp only); exact (by rw [take_snocL hi3, numF_snoc, ← hnF, ← hy]; unfold numS; rw [if_neg (by omega)])⟩, HB⟩ (by dsimp only; omega) (Kw.Sub.cons rfl (Kw.Sub.cons rfl (Kw.Sub.cons rfl (Kw.Sub.cons rfl Kw.Sub.nil))))
      ·
        refine Kw.WL_v rfl rfl rfl (Kw.R_eqi (z := false) rfl rfl (decide_eq_false ci)) ?_
        refine Kw.WL_v rfl rfl rfl (Kw.R_move rfl) ?_
        refine Kw.WL_off rfl rfl rfl ?_
        refine Kw.WL_v rfl rfl rfl (Kw.R_pickf rfl rfl) ?_
        refine Kw.WL_nil ?_
        refine hK45 _ _ ?_; clear hK45 K45
        refine Kw.WC_sub (l' := [(0, .string s), (3, .int .i64 n), (4, .bool false), (5, .int .i64 (i : Int)), (24, undef), (25, .bool false)]) (Kw.Sub.cons rfl (Kw.Sub.cons rfl (Kw.Sub.cons rfl (Kw.Sub.cons rfl (Kw.Sub.cons rfl (Kw.Sub.cons rfl Kw.Sub.nil)))))) ?_
        refine Kw.WC_false rfl ?_
        refine Kw.WC_skip ?_
        refine hK44 _ _ ?_; clear hK44 K44
        refine Kw.WC_seq (fun K49 hK49 => ?_)
        refine Kw.WC_region [some 26, some 27, some 28, some 29, some 6] rfl ?_
        refine Kw.WL_v rfl rfl rfl (Kw.R_move rfl) ?_
        refine Kw.WL_v rfl rfl rfl (Kw.R_move rfl) ?_
        refine Kw.WL_v rfl rfl rfl (Kw.R_indexb (i := i) (c := ((y.toNat : Nat) : Int)) Tryd.underlying9 rfl rfl (by rw [← size_list]; exact hi3) (by rw [byt_list s i hi3, ← hy])) ?_
        refine Kw.WL_callc rfl rfl rfl rfl F.cl46 rfl (value_c y w39) ?_; intro ww hww; rw [hww]; clear hww ww
        refine Kw.WL_v rfl rfl rfl (Kw.R_assign rfl) ?_
        refine Kw.WL_nil ?_
        refine hK49 _ _ ?_; clear hK49 K49
        refine Kw.WC_seq (fun K50 hK50 => ?_)
        refine Kw.WC_seq (fun K51 hK51 => ?_)
        refine Kw.WC_region [some 30, some 31, some 32, some 33, some 34, some 35, some 36, some 37, some 38] rfl ?_
        refine Kw.WL_v rfl rfl rfl (Kw.R_move rfl) ?_
        refine Kw.WL_v rfl rfl rfl (Kw.R_move rfl) ?_
        refine Kw.WL_v rfl rfl rfl (Kw.R_add (c := (-9223372036854775808 + valR y)) rfl rfl (by rw [Kw.wrap_i64 (by omega)])) ?_
        refine Kw.WL_v rfl rfl rfl (Kw.R_quo (c := ((-9223372036854775808 + valR y).tdiv 10)) rfl rfl (by decide) (by rw [Kw.wrap_i64 (by omega)])) ?_
        by_cases cn : n < (-9223372036854775808 + valR y).tdiv 10
        ·
          refine Kw.WL_v rfl rfl rfl (Kw.R_lss (z := true) rfl rfl (decide_eq_true cn)) ?_
          refine Kw.WL_v rfl rfl rfl (Kw.R_move rfl) ?_
          refine Kw.WL_off rfl rfl rfl ?_
          refine Kw.WL_off rfl rfl rfl ?_
          refine Kw.WL_v rfl rfl rfl (Kw.R_pickt rfl rfl) ?_
          refine Kw.WL_nil ?_
          refine hK51 _ _ ?_; clear hK51 K51
          refine Kw.WC_sub (l' := [(0, .string s), (3, .int .i64 n), (4, .bool false), (5, .int .i64 (i : Int)), (24, undef), (6, .int .i64 (valR y)), (36, undef), (37, undef), (38, .bool true)]) (Kw.Sub.cons rfl (Kw.Sub.cons rfl (Kw.Sub.cons rfl (Kw.Sub.cons rfl (Kw.Sub.cons rfl (Kw.Sub.cons rfl (Kw.Sub.cons rfl (Kw.Sub.cons rfl (Kw.Sub.cons rfl Kw.Sub.nil))))))))) ?_
          refine Kw.WC_true rfl ?_
          refine Kw.WC_region [some 6, some 3] rfl ?_
          refine Kw.WL_v rfl rfl rfl (Kw.R_assign rfl) ?_
          refine Kw.WL_v rfl rfl rfl (Kw.R_assign rfl) ?_
          refine Kw.WL_nil ?_
          refine hK50 _ _ ?_; clear hK50 K50
          refine Kw.WC_region [some 39, some 40, some 41, some 42, some 3] rfl ?_
          refine Kw.WL_v rfl rfl rfl (Kw.R_move rfl) ?_
          refine Kw.WL_v rfl rfl rfl (Kw.R_mul (c := 0) rfl rfl (by rw [Kw.wrap_i64 (by omega)]; rfl)) ?_
          refine Kw.WL_v rfl rfl rfl (Kw.R_move rfl) ?_
          refine Kw.WL_v rfl rfl rfl (Kw.R_sub (c := 0) rfl rfl (by rw [Kw.wrap_i64 (by omega)]; rfl)) ?_
          refine Kw.WL_v rfl rfl rfl (Kw.R_assign rfl) ?_
          refine Kw.WL_nil ?_
          refine Kw.QN_block ?_
          refine hK43 _ _ ?_; clear hK43 K43
          refine Kw.WC_sub (l' := [(0, .string s), (3, .int .i64 0), (4, .bool false), (5, .int .i64 (i : Int)), (24, undef), (36, undef), (37, undef)]) (Kw.Sub.cons rfl (Kw.Sub.cons rfl (Kw.Sub.cons rfl (Kw.Sub.cons rfl (Kw.Sub.cons rfl (Kw.Sub.cons rfl (Kw.Sub.cons rfl Kw.Sub.nil))))))) ?_
          refine Kw.WC_region [some 19, some 20, some 5] rfl ?_
          refine Kw.WL_v rfl rfl rfl (Kw.R_move rfl) ?_
          refine Kw.WL_v rfl rfl rfl (Kw.R_add (c := ((i + 1 : Nat) : Int)) rfl rfl (by rw [Kw.wrap_i64 (by omega)]; omega)) ?_
          refine Kw.WL_v rfl rfl rfl (Kw.R_assign rfl) ?_
          refine Kw.WL_nil ?_
          refine Kw.QN_round ((i + 1, 0)) ⟨⟨by (try dsimp only); omega, by (try dsimp only); omega, by (try dsimp only); omega, by (try dsimp only); exact (by rw [take_snocL hi3, numF_snoc, ← hnF, ← hy]; unfold numS; rw [if_pos (.inl cn)])⟩, HB⟩ (by dsimp only; omega) (Kw.Sub.cons rfl (Kw.Sub.cons rfl (Kw.Sub.cons rfl (Kw.Sub.cons rfl Kw.Sub.nil))))
        ·
          refine Kw.WL_v rfl rfl rfl (Kw.R_lss (z := false) rfl rfl (decide_eq_false cn)) ?_
          refine Kw.WL_v rfl rfl rfl (Kw.R_move rfl) ?_
          refine Kw.WL_v rfl rfl rfl (Kw.R_move rfl) ?_
          by_cases cd : (9 : Int) < valR y
          ·
            refine Kw.WL_v rfl rfl rfl (Kw.R_gtr (z := true) rfl rfl (decide_eq_true cd)) ?_
            refine Kw.WL_v rfl rfl rfl (Kw.R_pickf rfl rfl) ?_
            refine Kw.WL_nil ?_
            refine hK51 _ _ ?_; clear hK51 K51
            refine Kw.WC_sub (l' := [(0, .string s), (3, .int .i64 n), (4, .bool false), (5, .int .i64 (i : Int)), (24, undef), (6, .int .i64 (valR y)), (36, .int .i64 (valR y)), (37, .bool true), (38, .bool true)]) (Kw.Sub.cons rfl (Kw.Sub.cons rfl (Kw.Sub.cons rfl (Kw.Sub.cons rfl (Kw.Sub.cons rfl (Kw.Sub.cons rfl (Kw.Sub.cons rfl (Kw.Sub.cons rfl (Kw.Sub.cons rfl Kw.Sub.nil))))))))) ?_
            refine Kw.WC_true rfl ?_
            refine Kw.WC_region [some 6, some 3] rfl ?_
            refine Kw.WL_v rfl rfl rfl (Kw.R_assign rfl) ?_
            refine Kw.WL_v rfl rfl rfl (Kw.R_assign rfl) ?_
            refine Kw.WL_nil ?_
            refine hK50 _ _ ?_; clear hK50 K50
            refine Kw.WC_region [some 39, some 40, some 41, some 42, some 3] rfl ?_
            refine Kw.WL_v rfl rfl rfl (Kw.R_move rfl) ?_
            refine Kw.WL_v rfl rfl rfl (Kw.R_mul (c := 0) rfl rfl (by rw [Kw.wrap_i64 (by omega)]; rfl)) ?_
            refine Kw.WL_v rfl rfl rfl (Kw.R_move rfl) ?_
            refine Kw.WL_v rfl rfl rfl (Kw.R_sub (c := 0) rfl rfl (by rw [Kw.wrap_i64 (by omega)]; rfl)) ?_
            refine Kw.WL_v rfl rfl rfl (Kw.R_assign rfl) ?_
            refine Kw.WL_nil ?_
            refine Kw.QN_block ?_
            refine hK43 _ _ ?_; clear hK43 K43
            refine Kw.WC_sub (l' := [(0, .string s), (3, .int .i64 0), (4, .bool false), (5, .int .i64 (i : Int)), (24, undef), (36, .int .i64 (valR y)), (37, .bool true)]) (Kw.Sub.cons rfl (Kw.Sub.cons rfl (Kw.Sub.cons rfl (Kw.Sub.cons rfl (Kw.Sub.cons rfl (Kw.Sub.cons rfl (Kw.Sub.cons rfl Kw.Sub.nil))))))) ?_
            refine Kw.WC_region [some 19, some 20, some 5] rfl ?_
            refine Kw.WL_v rfl rfl rfl (Kw.R_move rfl) ?_
            refine Kw.WL_v rfl rfl rfl (Kw.R_add (c := ((i + 1 : Nat) : Int)) rfl rfl (by rw [Kw.wrap_i64 (by omega)]; omega)) ?_
            refine Kw.WL_v rfl rfl rfl (Kw.R_assign rfl) ?_
            refine Kw.WL_nil ?_
            refine Kw.QN_round ((i + 1, 0)) ⟨⟨by (try dsimp only); omega, by (try dsimp only); omega, by (try dsimp only); omega, by (try dsimp only); exact (by rw [take_snocL hi3, numF_snoc, ← hnF, ← hy]; unfold numS; rw [if_pos (.inr cd)])⟩, HB⟩ (by dsimp only; omega) (Kw.Sub.cons rfl (Kw.Sub.cons rfl (Kw.Sub.cons rfl (Kw.Sub.cons rfl Kw.Sub.nil))))
          ·
            refine Kw.WL_v rfl rfl rfl (Kw.R_gtr (z := false) rfl rfl (decide_eq_false cd)) ?_
            refine Kw.WL_v rfl rfl rfl (Kw.R_pickf rfl rfl) ?_
            refine Kw.WL_nil ?_
            refine hK51 _ _ ?_; clear hK51 K51
            refine Kw.WC_sub (l' := [(0, .string s), (3, .int .i64 n), (4, .bool false), (5, .int .i64 (i : Int)), (24, undef), (6, .int .i64 (valR y)), (36, .int .i64 (valR y)), (37, .bool false), (38, .bool false)]) (Kw.Sub.cons rfl (Kw.Sub.cons rfl (Kw.Sub.cons rfl (Kw.Sub.cons rfl (Kw.Sub.cons rfl (Kw.Sub.cons rfl (Kw.Sub.cons rfl (Kw.Sub.cons rfl (Kw.Sub.cons rfl Kw.Sub.nil))))))))) ?_
            refine Kw.WC_false rfl ?_
            refine Kw.WC_skip ?_
            refine hK50 _ _ ?_; clear hK50 K50
            refine Kw.WC_region [some 39, some 40, some 41, some 42, some 3] rfl ?_
            refine Kw.WL_v rfl rfl rfl (Kw.R_move rfl) ?_
            refine Kw.WL_v rfl rfl rfl (Kw.R_mul (c := (n * 10)) rfl rfl (by rw [Kw.wrap_i64 (by omega)])) ?_
            refine Kw.WL_v rfl rfl rfl (Kw.R_move rfl) ?_
            refine Kw.WL_v rfl rfl rfl (Kw.R_sub (c := (n * 10 - valR y)) rfl rfl (by rw [Kw.wrap_i64 (by omega)])) ?_
            refine Kw.WL_v rfl rfl rfl (Kw.R_assign rfl) ?_
            refine Kw.WL_nil ?_
            refine Kw.QN_block ?_
            refine hK43 _ _ ?_; clear hK43 K43
            refine Kw.WC_sub (l' := [(0, .string s), (3, .int .i64 (n * 10 - valR y)), (4, .bool false), (5, .int .i64 (i : Int)), (24, undef), (36, .int .i64 (valR y)), (37, .bool false)]) (Kw.Sub.cons rfl (Kw.Sub.cons rfl (Kw.Sub.cons rfl (Kw.Sub.cons rfl (Kw.Sub.cons rfl (Kw.Sub.cons rfl (Kw.Sub.cons rfl Kw.Sub.nil))))))) ?_
            refine Kw.WC_region [some 19, some 20, some 5] rfl ?_
            refine Kw.WL_v rfl rfl rfl (Kw.R_move rfl) ?_
            refine Kw.WL_v rfl rfl rfl (Kw.R_add (c := ((i + 1 : Nat) : Int)) rfl rfl (by rw [Kw.wrap_i64 (by omega)]; omega)) ?_
            refine Kw.WL_v rfl rfl rfl (Kw.R_assign rfl) ?_
            refine Kw.WL_nil ?_
            refine Kw.QN_round ((i + 1, (n * 10 - valR y))) ⟨⟨by (try dsimp only); omega, by (try dsimp only); omega, by (try dsimp only); omega, by (try dsimp only); exact (by rw [take_snocL hi3, numF_snoc, ← hnF, ← hy]; unfold numS; rw [if_neg (by omega)])⟩, HB⟩ (by dsimp only; omega) (Kw.Sub.cons rfl (Kw.Sub.cons rfl (Kw.Sub.cons rfl (Kw.Sub.cons rfl Kw.Sub.nil))))
    ·
      refine Kw.WL_v rfl rfl rfl (Kw.R_lss (z := false) rfl rfl (decide_eq_false c42)) ?_
      rw [List.take_of_length_le (by rw [size_list]; omega)] at hnF
      refine Kw.WL_nil ?_
      refine hK41 _ _ ?_; clear hK41 K41
      refine Kw.WC_false rfl ?_
      refine Kw.WC_exit ?_
      refine Kw.QE_then ?_; clear hK40 K40
      refine Kw.QE_then ?_
      refine Kw.QE_here ?_
      refine hK37 _ _ ?_; clear hK37 K37
      refine Kw.WC_sub (l' := [(3, .int .i64 n), (4, .bool false)]) (Kw.Sub.cons rfl (Kw.Sub.cons rfl Kw.Sub.nil)) ?_
      refine Kw.WC_seq (fun K52 hK52 => ?_)
      refine Kw.WC_seq (fun K53 hK53 => ?_)
      refine Kw.WC_region [some 43] rfl ?_
      refine Kw.WL_v rfl rfl rfl (Kw.R_move rfl) ?_
      refine Kw.WL_nil ?_
      refine hK53 _ _ ?_; clear hK53 K53
      refine Kw.WC_false rfl ?_
      refine Kw.WC_skip ?_
      refine hK52 _ _ ?_; clear hK52 K52
      refine Kw.WC_seq (fun K54 hK54 => ?_)
      refine Kw.WC_region [some 45, some 46, some 2] rfl ?_
      refine Kw.WL_v rfl rfl rfl (Kw.R_move rfl) ?_
      refine Kw.WL_v rfl rfl rfl (Kw.R_neg (c := IntKind.i64.wrap (0 - n)) rfl rfl) ?_
      refine Kw.WL_v rfl rfl rfl (Kw.R_assign rfl) ?_
      refine Kw.WL_nil ?_
      refine hK54 _ _ ?_; clear hK54 K54
      refine Kw.WC_ret ?_
      exact Kw.post_ret1 rfl rfl ⟨by unfold numR; rw [if_neg hmz, hnF], HB⟩

set_option maxRecDepth 100000 in
set_option maxHeartbeats 4000000 in
theorem read_c (s : ByteArray) (hs : s.size ≤ 1000000000) (w : World) : Calls Tryd.prog 36 #[.string s] w fun e w' => e = .returned (.string (bA (readL s.data.toList.tail))) ∧ Below w.heap.size w w' := by
  have HB : Below w.heap.size w w := Below.refl _ _
  refine Kw.enter Tryd.func36 rfl Tryd.ntmps36 rfl rfl ?_
  refine Kw.WC_seq (fun K1 hK1 => ?_)
  refine Kw.WC_region [some 2] rfl ?_
  refine Kw.WL_v rfl rfl rfl (Kw.R_assign rfl) ?_
  refine Kw.WL_nil ?_
  refine hK1 _ _ ?_; clear hK1 K1
  refine Kw.WC_seq (fun K2 hK2 => ?_)
  refine Kw.WC_region [some 3] rfl ?_
  refine Kw.WL_v rfl rfl rfl (Kw.R_assign rfl) ?_
  refine Kw.WL_nil ?_
  refine hK2 _ _ ?_; clear hK2 K2
  refine Kw.WC_seq (fun K3 hK3 => ?_)
  refine Kw.WC_seq (fun K4 hK4 => ?_)
  refine Kw.WC_region [some 4] rfl ?_
  refine Kw.WL_v rfl rfl rfl (Kw.R_assign rfl) ?_
  refine Kw.WL_nil ?_
  refine hK4 _ _ ?_; clear hK4 K4
  refine Kw.WC_block ?_
  refine Kw.WC_loop (ι := Nat × Value) (fun (q : Nat × Value) (ww : World) => match q with | ⟨j, v⟩ => (j ≤ s.size) ∧ Kw.Own ww w.heap.size 5 1 v (((readL s.data.toList.tail).take j).length) (byV ((readL s.data.toList.tail).take j)) ∧ Below w.heap.size w ww) (fun (q : Nat × Value) => match q with | ⟨j, v⟩ => [(0, .string s), (3, v), (4, .int .i64 ((2 * j + 1 : Nat) : Int))]) (fun (q : Nat × Value) => match q with | ⟨j, v⟩ => s.size - j) (0, .slice none 0 0) ⟨Nat.zero_le _, Kw.Own.nil _ _ _ _, HB⟩ (Kw.Sub.cons rfl (Kw.Sub.cons rfl (Kw.Sub.cons rfl Kw.Sub.nil))) ?_
  clear HB
  rintro ⟨j, v⟩ w5 ⟨hj, O_v, HB⟩
  dsimp only at *
  refine Kw.WC_seq (fun K6 hK6 => ?_)
  refine Kw.WC_seq (fun K7 hK7 => ?_)
  refine Kw.WC_region [some 5, some 6, some 7, some 8, some 9] rfl ?_
  refine Kw.WL_v rfl rfl rfl (Kw.R_move rfl) ?_
  refine Kw.WL_v rfl rfl rfl (Kw.R_add (c := ((2 * j + 2 : Nat) : Int)) rfl rfl (by rw [Kw.wrap_i64 (by omega)]; omega)) ?_
  refine Kw.WL_v rfl rfl rfl (Kw.R_move rfl) ?_
  refine Kw.WL_v rfl rfl rfl (Kw.R_lens Tryd.underlying9 rfl) ?_
  by_cases c8 : ((2 * j + 2 : Nat) : Int) < (s.size : Int)
  ·
    refine Kw.WL_v rfl rfl rfl (Kw.R_lss (z := true) rfl rfl (decide_eq_true c8)) ?_
    have h2 : 2 * j + 2 < s.data.toList.length := by rw [size_list]; omega
    have h1 : 2 * j + 1 < s.data.toList.length := by omega
    obtain ⟨y, hy⟩ : ∃ y, y = s.data.toList[2 * j + 1]'h1 := ⟨_, rfl⟩
    obtain ⟨z, hz⟩ : ∃ z, z = s.data.toList[2 * j + 2]'h2 := ⟨_, rfl⟩
    have hy8 := UInt8.toNat_lt y
    have hz8 := UInt8.toNat_lt z
    refine Kw.WL_nil ?_
    refine hK7 _ _ ?_; clear hK7 K7
    refine Kw.WC_true rfl ?_
    refine Kw.WC_skip ?_
    refine hK6 _ _ ?_; clear hK6 K6
    refine Kw.WC_seq (fun K9 hK9 => ?_)
    refine Kw.WC_block ?_
    refine Kw.WC_sched (fun ww => True ∧ True) [(0, true), (1, true), (2, true), (3, true), (6, true), (7, true), (8, true), (9, true), (4, false), (5, true), (10, false), (11, true), (12, true), (13, false), (14, false), (15, true)] [some 12, some 13, some 14, some 15, some 16, some 17, some 18, some 19, some 20, some 21, some 22, some 23, some 24, some 25, some 26, some 3] rfl (by kernel_rfl) rfl (by kernel_rfl) ?_
    obtain ⟨w10, hww10⟩ : ∃ x : World, x = Go.World.drew w5 := ⟨_, rfl⟩
    rw [← hww10]
    replace O_v := O_v.drew; rw [← hww10] at O_v
    replace HB : Below w.heap.size w w10 := by rw [hww10]; exact HB.drew
    clear hww10
    have hS : True ∧ True := ⟨trivial, trivial⟩
    refine Kw.WX_take rfl rfl rfl rfl (fun _ _ _ h => h) hS (fun _ ⟨_, _⟩ => Kw.R_move rfl) ?_
    refine Kw.WX_take rfl rfl rfl rfl (fun _ _ _ h => h) hS (fun _ ⟨_, _⟩ => Kw.R_move rfl) ?_
    refine Kw.WX_take rfl rfl rfl rfl (fun _ _ _ h => h) hS (fun _ ⟨_, _⟩ => Kw.R_move rfl) ?_
    refine Kw.WX_take rfl rfl rfl rfl (fun _ _ _ h => h) hS (fun _ ⟨_, _⟩ => Kw.R_indexb (i := (2 * j + 1 : Nat)) (c := ((y.toNat : Nat) : Int)) Tryd.underlying9 rfl rfl (by rw [← size_list]; exact h1) (by rw [byt_list s (2 * j + 1) h1, ← hy])) ?_
    refine Kw.WX_take rfl rfl rfl rfl (fun _ _ _ h => h) hS (fun _ ⟨_, _⟩ => Kw.R_move rfl) ?_
    refine Kw.WX_take rfl rfl rfl rfl (fun _ _ _ h => h) hS (fun _ ⟨_, _⟩ => Kw.R_move rfl) ?_
    refine Kw.WX_take rfl rfl rfl rfl (fun _ _ _ h => h) hS (fun _ ⟨_, _⟩ => Kw.R_add (c := ((2 * j + 2 : Nat) : Int)) rfl rfl (by rw [Kw.wrap_i64 (by omega)]; omega)) ?_
    refine Kw.WX_take rfl rfl rfl rfl (fun _ _ _ h => h) hS (fun _ ⟨_, _⟩ => Kw.R_indexb (i := (2 * j + 2 : Nat)) (c := ((z.toNat : Nat) : Int)) Tryd.underlying9 rfl rfl (by rw [← size_list]; exact h2) (by rw [byt_list s (2 * j + 2) h2, ← hz])) ?_
    refine Kw.WX_callc rfl rfl rfl rfl rfl F.cl46 rfl (value_c y w10) ?_; intro w11 bw11
    rw [bw11]; clear bw11
    refine ⟨hS, ?_⟩
    refine Kw.WX_take rfl rfl rfl rfl (fun _ _ _ h => h) hS (fun _ ⟨_, _⟩ => Kw.R_mul (c := (valR y * 16)) rfl rfl (by have := valR_range y; rw [Kw.wrap_i64 (by omega)])) ?_
    refine Kw.WX_callc rfl rfl rfl rfl rfl F.cl46 rfl (value_c z w10) ?_; intro w12 bw12
    rw [bw12]; clear bw12
    refine ⟨hS, ?_⟩
    refine Kw.WX_take rfl rfl rfl rfl (fun _ _ _ h => h) hS (fun _ ⟨_, _⟩ => Kw.R_add (c := (valR y * 16 + valR z)) rfl rfl (by have := valR_range y; have := valR_range z; rw [Kw.wrap_i64 (by omega)])) ?_
    refine Kw.WX_take rfl rfl rfl rfl (fun _ _ _ h => h) hS (fun _ ⟨_, _⟩ => Kw.R_conv (c := (((pairR y z).toNat : Nat) : Int)) Tryd.underlying3 Tryd.underlying5 rfl (by rw [Kw.wrap_u8]; exact pairR_val y z)) ?_
    obtain ⟨gp, w13, N_gp⟩ : ∃ b_ w2_, Kw.Newb w10 b_ #[.int .u8 (((pairR y z).toNat : Nat) : Int)] 5 w2_ := ⟨_, _, rfl, rfl⟩
    have R_gp := fun (l : Kw.Env) (h : Kw.evsP l [(0, .tmp 24)] = some [(0, .int .u8 (((pairR y z).toNat : Nat) : Int))]) => Kw.R_buildSlice (P := Tryd.prog) (l := l) (D := some 25) (T := 42) (S := "ref.go:164") (F := #[⟨12, .data⟩]) (g := none) (t := 42) (len := 1) h (fun w => by kernel_rfl) N_gp
    have A_gp : Kw.At w13 gp #[.int .u8 (((pairR y z).toNat : Nat) : Int)] 5 := N_gp.at_
    have D_v_gp := O_v.ne_new N_gp; replace O_v := O_v.new N_gp
    have G_gp := N_gp.ge HB (Nat.le_refl _); replace HB := N_gp.below HB (Nat.le_refl _); clear N_gp
    clear hS; have hS : True ∧ True := ⟨trivial, trivial⟩
    refine Kw.WX_v rfl rfl rfl rfl (R_gp _ rfl) hS ?_; clear R_gp
    refine Kw.WX_append rfl rfl rfl rfl rfl Tryd.underlying42 Tryd.underlying42 (.inr ⟨_, rfl⟩) F.sz5 F.by5 F.ze5 rfl O_v (Kw.News.row (news := [.int .u8 (((pairR y z).toNat : Nat) : Int)]) A_gp rfl rfl (by simp [Value.oneCell'])) (by unfold maxLen; rw [List.length_take]; omega) (by rw [List.length_take]; omega) HB.size ?_; intro v26 w14 O_v26 R_v26
    have D_v26_gp := R_v26.ne A_gp D_v_gp
    replace A_gp := R_v26.keep A_gp D_v_gp
    replace HB := R_v26.below HB (Nat.le_refl _) (fun g hg => O_v.ge hg); clear R_v26
    replace O_v26 : Kw.Own w14 w.heap.size 5 1 v26 (((readL s.data.toList.tail).take (j + 1)).length) (byV ((readL s.data.toList.tail).take (j + 1))) := by rw [read_snoc _ j h1 h2, ← hy, ← hz, List.length_append, byV_app]; exact O_v26
    clear O_v
    clear A_gp
    clear hS; have hS : True ∧ True := ⟨trivial, trivial⟩
    refine ⟨hS, ?_⟩
    refine Kw.WX_take rfl rfl rfl rfl (fun _ _ _ h => h) hS (fun _ ⟨_, _⟩ => Kw.R_assign rfl) ?_
    refine Kw.WX_nil ?_
    clear hS
    refine Kw.QN_block ?_
    refine hK9 _ _ ?_; clear hK9 K9
    refine Kw.WC_sub (l' := [(0, .string s), (3, v26), (4, .int .i64 ((2 * j + 1 : Nat) : Int))]) (Kw.Sub.cons rfl (Kw.Sub.cons rfl (Kw.Sub.cons rfl Kw.Sub.nil))) ?_
    refine Kw.WC_region [some 10, some 11, some 4] rfl ?_
    refine Kw.WL_v rfl rfl rfl (Kw.R_move rfl) ?_
    refine Kw.WL_v rfl rfl rfl (Kw.R_add (c := ((2 * (j + 1) + 1 : Nat) : Int)) rfl rfl (by rw [Kw.wrap_i64 (by omega)]; omega)) ?_
    refine Kw.WL_v rfl rfl rfl (Kw.R_assign rfl) ?_
    refine Kw.WL_nil ?_
    refine Kw.QN_round ((j + 1, v26)) ⟨by (try dsimp only); omega, O_v26, HB⟩ (by dsimp only; omega) (Kw.Sub.cons rfl (Kw.Sub.cons rfl (Kw.Sub.cons rfl Kw.Sub.nil)))
  ·
    refine Kw.WL_v rfl rfl rfl (Kw.R_lss (z := false) rfl rfl (decide_eq_false c8)) ?_
    rw [List.take_of_length_le (by rw [readL_len, List.length_tail, size_list]; omega)] at O_v
    refine Kw.WL_nil ?_
    refine hK7 _ _ ?_; clear hK7 K7
    refine Kw.WC_false rfl ?_
    refine Kw.WC_exit ?_
    refine Kw.QE_then ?_; clear hK6 K6
    refine Kw.QE_then ?_
    refine Kw.QE_here ?_
    refine hK3 _ _ ?_; clear hK3 K3
    refine Kw.WC_sub (l' := [(3, v)]) (Kw.Sub.cons rfl Kw.Sub.nil) ?_
    refine Kw.WC_seq (fun K15 hK15 => ?_)
    refine Kw.WC_region [some 27, some 28, some 2] rfl ?_
    refine Kw.WL_v rfl rfl rfl (Kw.R_move rfl) ?_
    refine Kw.WL_v rfl rfl rfl (R_convown (bs := (readL s.data.toList.tail)) Tryd.underlying42 Tryd.underlying5 Tryd.underlying9 rfl O_v rfl) ?_
    refine Kw.WL_v rfl rfl rfl (Kw.R_assign rfl) ?_
    refine Kw.WL_nil ?_
    refine hK15 _ _ ?_; clear hK15 K15
    refine Kw.WC_ret ?_
    exact Kw.post_ret1 rfl rfl ⟨rfl, HB⟩
section
variable {P : Program} {G : List (Option Tmp)} {Q : Exit → Act → World → Prop} {l : Kw.Env} {n : Nat} {w : World} {ops : List Oper} {SS : World → Prop} {r : List (Nat × Bool)} {TT : TypeId} {S : String} {F : Array Edge} {g : Option (Nat × Bool)}
theorem WX_store1 {i : Nat} {t : TypeId} {x y : Operand} {b o : Nat} {cs ds : Array Value} {U : TypeId} {v : Value} (hi : ops[i]? = some ⟨none, .store t x y, TT, S, F, g⟩) (hw : Kw.on G l g = true) (hx : Kw.ev l x = some (.pointer (some ⟨b, o, none⟩))) (hy : Kw.ev l y = some v) (hs : Kw.sizeIs P t 1)
    (hb : Kw.At w b cs U) (hk : o < cs.size) (hc : v.cells = #[v]) (h1 : v.oneCell' = true) (he : cs.setIfInBounds o v = ds)
    (h : ∀ w', Kw.Wrote w b ds w' → SS w' ∧ Kw.WX P ops G Q SS r l n w') : Kw.WX P ops G Q SS ((i, false) :: r) l n w := by
  have he2 : Kw.splice cs o v.cells.toList = ds := by rw [hc, ← he]; exact Kw.splice_one cs o v hk
  have hW := Kw.wrote_splice (w := w) (o := o) (vs := v.cells.toList) hb (by rw [hc]; show o + 1 ≤ _; omega) he2
  obtain ⟨h3, h2⟩ := h _ hW
  exact Kw.WX_u hi hw rfl (Kw.R_store hx hy (by rw [hc]; exact hs) hb (by rw [hc]; show o + 1 ≤ _; omega) (by rw [hc]; simpa using h1) he2 hW) h3 h2
end
theorem split_snoc32 : ∀ l : List UInt8, splitL 32 (l ++ [32]) = splitL 32 l ++ [[]]
  | [] => rfl
  | b :: l => by
    rw [List.cons_append, splitL_cons, splitL_cons, split_snoc32 l]
    by_cases e : b = 32
    · rw [if_pos e, if_pos e]; rfl
    · rw [if_neg e, if_neg e]
      cases h : splitL 32 l with
      | nil => exact absurd h (splitL_ne 32 l)
      | cons w ws => rfl
theorem split_snoc : ∀ (l : List UInt8) (y : UInt8), y ≠ 32 → splitL 32 (l ++ [y]) = (splitL 32 l).set ((splitL 32 l).length - 1) ((splitL 32 l).getD ((splitL 32 l).length - 1) [] ++ [y])
  | [], y, h => by
    rw [List.nil_append, splitL_cons, if_neg h]; rfl
  | b :: l, y, h => by
    have ih := split_snoc l y h
    rw [List.cons_append, splitL_cons, splitL_cons, ih]
    cases hs : splitL 32 l with
    | nil => exact absurd hs (splitL_ne 32 l)
    | cons w ws =>
      by_cases e : b = 32
      · rw [if_pos e, if_pos e]
        show [] :: (w :: ws).set ws.length _ = ([] :: w :: ws).set (ws.length + 1) _
        rw [List.set_cons_succ]
        congr 2
      · rw [if_neg e, if_neg e]
        cases ws with
        | nil => rfl
        | cons v vs => rfl
theorem words_at {W : List (List UInt8)} {cur : Array Value} {n : Nat} (h : cur.toList.take (n * 1) = wsV W) (hn : W.length = n) {j : Nat} (hj : j < n) : cur[j]? = some (.string (bA (W.getD j []))) := by
  rw [Kw.Own.cellAt h (by omega)]
  have := wsV_at (W := W) (j := j) (by omega)
  rwa [List.getElem?_toArray] at this
theorem words_set {W : List (List UInt8)} {cur : Array Value} {n : Nat} (h : cur.toList.take (n * 1) = wsV W) (j : Nat) (w : List UInt8) : (cur.setIfInBounds j (.string (bA w))).toList.take (n * 1) = wsV (W.set j w) := by
  rw [Array.toList_setIfInBounds, List.take_set, h]
  unfold wsV
  rw [List.map_set]

theorem ex_one (s : ByteArray) {i : Nat} (h : i < s.data.toList.length) : s.extract i (i + 1) = bA [s.data.toList[i]'h] := by
  apply ByteArray.ext
  apply Array.toList_inj.1
  have e : (s.extract i (i + 1)).data.toList = (s.data.toList.drop i).take 1 := by
    rw [ByteArray.data_extract, Array.toList_extract]
    simp [List.extract]
  rw [e, List.drop_eq_getElem_cons h]; rfl

set_option maxRecDepth 100000 in
set_option maxHeartbeats 4000000 in
theorem words_c (s : ByteArray) (hs : s.size ≤ 1000000) (w : World) : Calls Tryd.prog 34 #[.string s] w (Kw.Back fun v w' => Kw.Own w' w.heap.size 9 1 v (splitL 32 s.data.toList).length (wsV (splitL 32 s.data.toList)) ∧ Below w.heap.size w w') := by
  have HB : Below w.heap.size w w := Below.refl _ _
  refine Kw.enter Tryd.func34 rfl Tryd.ntmps34 rfl rfl ?_
  refine Kw.WC_seq (fun K1 hK1 => ?_)
  refine Kw.WC_region [some 2] rfl ?_
  refine Kw.WL_v rfl rfl rfl (Kw.R_assign rfl) ?_
  refine Kw.WL_nil ?_
  refine hK1 _ _ ?_; clear hK1 K1
  refine Kw.WC_seq (fun K2 hK2 => ?_)
  refine Kw.WC_region [some 5, some 3] rfl ?_
  obtain ⟨gw, w3, N_gw⟩ : ∃ b_ w2_, Kw.Newb w b_ #[.string ⟨#[]⟩] 9 w2_ := ⟨_, _, rfl, rfl⟩
  refine Kw.WL_v rfl rfl rfl (Kw.R_buildSlice rfl (fun w => by kernel_rfl) N_gw) ?_
  have A_gw : Kw.At w3 gw #[.string ⟨#[]⟩] 9 := N_gw.at_
  have G_gw := N_gw.ge HB (Nat.le_refl _); replace HB := N_gw.below HB (Nat.le_refl _); clear N_gw
  obtain ⟨v0, hev0⟩ : ∃ x : Value, x = .slice (some ⟨gw, 0, none⟩) 1 1 := ⟨_, rfl⟩
  have O_v0 : Kw.Own w3 w.heap.size 9 1 v0 1 ([.string ⟨#[]⟩]) := by rw [hev0]; exact Kw.Own.whole G_gw A_gw (by unfold maxLen; omega) rfl
  clear A_gw
  refine Kw.WL_sub (l' := [(5, v0), (0, .string s), (2, .slice none 0 0)]) (by rw [hev0]; exact (Kw.Sub.cons rfl (Kw.Sub.cons rfl (Kw.Sub.cons rfl Kw.Sub.nil)))) ?_
  refine Kw.WL_v rfl rfl rfl (Kw.R_assign rfl) ?_
  refine Kw.WL_nil ?_
  refine hK2 _ _ ?_; clear hK2 K2
  refine Kw.WC_seq (fun K4 hK4 => ?_)
  refine Kw.WC_seq (fun K5 hK5 => ?_)
  refine Kw.WC_region [some 4] rfl ?_
  refine Kw.WL_v rfl rfl rfl (Kw.R_assign rfl) ?_
  refine Kw.WL_nil ?_
  refine hK5 _ _ ?_; clear hK5 K5
  refine Kw.WC_block ?_
  refine Kw.WC_loop (ι := Nat × List (List UInt8) × Value) (fun (q : Nat × List (List UInt8) × Value) (ww : World) => match q with | ⟨i, W, v⟩ => (i ≤ s.size ∧ W = splitL 32 (s.data.toList.take i)) ∧ Kw.Own ww w.heap.size 9 1 v W.length (wsV W) ∧ Below w.heap.size w ww) (fun (q : Nat × List (List UInt8) × Value) => match q with | ⟨i, W, v⟩ => [(0, .string s), (3, v), (4, .int .i64 (i : Int))]) (fun (q : Nat × List (List UInt8) × Value) => match q with | ⟨i, W, v⟩ => s.size - i) (0, [[]], v0) ⟨⟨Nat.zero_le _, rfl⟩, O_v0, HB⟩ (Kw.Sub.cons rfl (Kw.Sub.cons rfl (Kw.Sub.cons rfl Kw.Sub.nil))) ?_
  clear O_v0
  clear HB
  rintro ⟨i, W, v⟩ w6 ⟨⟨hi, hW⟩, O_v, HB⟩
  dsimp only at *
  refine Kw.WC_seq (fun K7 hK7 => ?_)
  refine Kw.WC_seq (fun K8 hK8 => ?_)
  refine Kw.WC_region [some 6, some 7, some 8, some 9] rfl ?_
  refine Kw.WL_v rfl rfl rfl (Kw.R_move rfl) ?_
  refine Kw.WL_v rfl rfl rfl (Kw.R_move rfl) ?_
  refine Kw.WL_v rfl rfl rfl (Kw.R_lens Tryd.underlying9 rfl) ?_
  by_cases c9 : (i : Int) < (s.size : Int)
  ·
    refine Kw.WL_v rfl rfl rfl (Kw.R_lss (z := true) rfl rfl (decide_eq_true c9)) ?_
    have hi3 : i < s.data.toList.length := by rw [size_list]; omega
    obtain ⟨y, hy⟩ : ∃ y, y = s.data.toList[i]'hi3 := ⟨_, rfl⟩
    have hWl := splitL_len 32 (s.data.toList.take i); rw [← hW] at hWl
    have hWn := splitL_count 32 (s.data.toList.take i); rw [← hW, List.length_take] at hWn
    have hWw := split_word 32 (s.data.toList.take i); rw [← hW, List.length_take] at hWw
    refine Kw.WL_nil ?_
    refine hK8 _ _ ?_; clear hK8 K8
    refine Kw.WC_true rfl ?_
    refine Kw.WC_skip ?_
    refine hK7 _ _ ?_; clear hK7 K7
    refine Kw.WC_seq (fun K10 hK10 => ?_)
    refine Kw.WC_block ?_
    refine Kw.WC_seq (fun K11 hK11 => ?_)
    refine Kw.WC_region [some 12, some 13, some 14, some 15] rfl ?_
    refine Kw.WL_v rfl rfl rfl (Kw.R_move rfl) ?_
    refine Kw.WL_v rfl rfl rfl (Kw.R_move rfl) ?_
    refine Kw.WL_v rfl rfl rfl (Kw.R_indexb (i := i) (c := ((y.toNat : Nat) : Int)) Tryd.underlying9 rfl rfl (by rw [← size_list]; exact hi3) (by rw [byt_list s i hi3, ← hy])) ?_
    by_cases cs : ((y.toNat : Nat) : Int) = 32
    ·
      refine Kw.WL_v rfl rfl rfl (Kw.R_eqi (z := true) rfl rfl (decide_eq_true cs)) ?_
      have hy32 : y = 32 := UInt8.toNat_inj.1 (by have : (32 : UInt8).toNat = 32 := rfl; omega)
      refine Kw.WL_nil ?_
      refine hK11 _ _ ?_; clear hK11 K11
      refine Kw.WC_sub (l' := [(0, .string s), (3, v), (4, .int .i64 (i : Int)), (15, .bool true)]) (Kw.Sub.cons rfl (Kw.Sub.cons rfl (Kw.Sub.cons rfl (Kw.Sub.cons rfl Kw.Sub.nil)))) ?_
      refine Kw.WC_true rfl ?_
      refine Kw.WC_region [some 16, some 17, some 18, some 3] rfl ?_
      refine Kw.WL_v rfl rfl rfl (Kw.R_move rfl) ?_
      obtain ⟨ge, w12, N_ge⟩ : ∃ b_ w2_, Kw.Newb w6 b_ #[.string ⟨#[]⟩] 9 w2_ := ⟨_, _, rfl, rfl⟩
      refine Kw.WL_v rfl rfl rfl (Kw.R_buildSlice rfl (fun w => by kernel_rfl) N_ge) ?_
      have A_ge : Kw.At w12 ge #[.string ⟨#[]⟩] 9 := N_ge.at_
      have D_v_ge := O_v.ne_new N_ge; replace O_v := O_v.new N_ge
      have G_ge := N_ge.ge HB (Nat.le_refl _); replace HB := N_ge.below HB (Nat.le_refl _); clear N_ge
      refine Kw.WL_append rfl rfl rfl rfl Tryd.underlying61 Tryd.underlying61 (.inr ⟨_, rfl⟩) F.sz9 F.by9 F.ze9 rfl O_v (Kw.News.row (news := [.string ⟨#[]⟩]) A_ge rfl rfl (by simp [Value.oneCell'])) (by unfold maxLen; omega) (by omega) HB.size ?_; intro v18 w13 O_v18 R_v18
      have D_v18_ge := R_v18.ne A_ge D_v_ge
      replace A_ge := R_v18.keep A_ge D_v_ge
      replace HB := R_v18.below HB (Nat.le_refl _) (fun g hg => O_v.ge hg); clear R_v18
      replace O_v18 : Kw.Own w13 w.heap.size 9 1 v18 ((W ++ [[]]).length) (wsV (W ++ [[]])) := by rw [wsV_app, List.length_append]; exact O_v18
      clear O_v
      clear A_ge
      refine Kw.WL_v rfl rfl rfl (Kw.R_assign rfl) ?_
      refine Kw.WL_nil ?_
      refine Kw.QN_block ?_
      refine hK10 _ _ ?_; clear hK10 K10
      refine Kw.WC_region [some 10, some 11, some 4] rfl ?_
      refine Kw.WL_v rfl rfl rfl (Kw.R_move rfl) ?_
      refine Kw.WL_v rfl rfl rfl (Kw.R_add (c := ((i + 1 : Nat) : Int)) rfl rfl (by rw [Kw.wrap_i64 (by omega)]; omega)) ?_
      refine Kw.WL_v rfl rfl rfl (Kw.R_assign rfl) ?_
      refine Kw.WL_nil ?_
      refine Kw.QN_round ((i + 1, W ++ [[]], v18)) ⟨⟨by (try dsimp only); omega, by (try dsimp only); exact (by rw [take_snocL hi3, ← hy, hy32, split_snoc32, ← hW])⟩, O_v18, HB⟩ (by dsimp only; omega) (Kw.Sub.cons rfl (Kw.Sub.cons rfl (Kw.Sub.cons rfl Kw.Sub.nil)))
    ·
      refine Kw.WL_v rfl rfl rfl (Kw.R_eqi (z := false) rfl rfl (decide_eq_false cs)) ?_
      have hy32 : y ≠ 32 := fun e => cs (by rw [e]; rfl)
      refine Kw.WL_nil ?_
      refine hK11 _ _ ?_; clear hK11 K11
      refine Kw.WC_sub (l' := [(0, .string s), (3, v), (4, .int .i64 (i : Int)), (15, .bool false)]) (Kw.Sub.cons rfl (Kw.Sub.cons rfl (Kw.Sub.cons rfl (Kw.Sub.cons rfl Kw.Sub.nil)))) ?_
      refine Kw.WC_false rfl ?_
      obtain ⟨gv, capv, curv, hv, hBv, A_gv, h1v, h2v, h3v, h4v⟩ : ∃ g cap cur, v = .slice (some ⟨g, 0, none⟩) W.length cap ∧ w.heap.size ≤ g ∧ Kw.At w6 g cur 9 ∧ W.length ≤ cap ∧ cap ≤ maxLen ∧ cur.size = cap * 1 ∧ cur.toList.take (W.length * 1) = wsV W := O_v.2.resolve_left (fun h => by have := h.2; omega)
      subst hv
      clear O_v
      have G_gv := hBv
      have hlast : W.length - 1 < curv.size := by omega
      refine Kw.WC_sched (fun ww => True ∧ True) [(0, true), (1, true), (2, true), (3, true), (4, true), (5, true), (6, true), (7, true), (8, true), (10, true), (11, true), (12, true), (13, true), (14, true), (9, false), (15, true), (16, true), (17, false)] [some 19, some 20, some 21, some 22, some 23, some 24, some 25, some 26, some 27, some 28, some 29, some 30, some 31, some 32, some 33, some 34, some 35, none] rfl (by kernel_rfl) rfl (by kernel_rfl) ?_
      obtain ⟨w14, hww14⟩ : ∃ x : World, x = Go.World.drew w6 := ⟨_, rfl⟩
      rw [← hww14]
      replace A_gv : Kw.At w14 gv curv 9 := by rw [hww14]; exact A_gv
      replace HB : Below w.heap.size w w14 := by rw [hww14]; exact HB.drew
      clear hww14
      have hS : True ∧ True := ⟨trivial, trivial⟩
      refine Kw.WX_take rfl rfl rfl rfl (fun _ _ _ h => h) hS (fun _ ⟨_, _⟩ => Kw.R_move rfl) ?_
      refine Kw.WX_take rfl rfl rfl rfl (fun _ _ _ h => h) hS (fun _ ⟨_, _⟩ => Kw.R_move rfl) ?_
      refine Kw.WX_take rfl rfl rfl rfl (fun _ _ _ h => h) hS (fun _ ⟨_, _⟩ => Kw.R_lenl Tryd.underlying61 rfl) ?_
      refine Kw.WX_take rfl rfl rfl rfl (fun _ _ _ h => h) hS (fun _ ⟨_, _⟩ => Kw.R_sub (c := ((W.length - 1 : Nat) : Int)) rfl rfl (by rw [Kw.wrap_i64 (by omega)]; omega)) ?_
      refine Kw.WX_take rfl rfl rfl rfl (fun _ _ _ h => h) hS (fun _ ⟨_, _⟩ => Kw.R_move rfl) ?_
      refine Kw.WX_take rfl rfl rfl rfl (fun _ _ _ h => h) hS (fun _ ⟨_, _⟩ => Kw.R_move rfl) ?_
      refine Kw.WX_take rfl rfl rfl rfl (fun _ _ _ h => h) hS (fun _ ⟨_, _⟩ => Kw.R_lenl Tryd.underlying61 rfl) ?_
      refine Kw.WX_take rfl rfl rfl rfl (fun _ _ _ h => h) hS (fun _ ⟨_, _⟩ => Kw.R_sub (c := ((W.length - 1 : Nat) : Int)) rfl rfl (by rw [Kw.wrap_i64 (by omega)]; omega)) ?_
      refine Kw.WX_take rfl rfl rfl rfl (fun _ _ _ h => h) hS (fun _ ⟨_, _⟩ => Kw.R_indexAddrS (i := (W.length - 1 : Nat)) (o' := (W.length - 1 : Nat)) rfl rfl Tryd.underlying61 F.sz9 (by omega) (by omega)) ?_
      refine Kw.WX_take rfl rfl rfl rfl (fun _ _ _ h => h) hS (fun _ ⟨_, _⟩ => Kw.R_move rfl) ?_
      refine Kw.WX_take rfl rfl rfl rfl (fun _ _ _ h => h) hS (fun _ ⟨_, _⟩ => Kw.R_move rfl) ?_
      refine Kw.WX_take rfl rfl rfl rfl (fun _ _ _ h => h) hS (fun _ ⟨_, _⟩ => Kw.R_move rfl) ?_
      refine Kw.WX_take rfl rfl rfl rfl (fun _ _ _ h => h) hS (fun _ ⟨_, _⟩ => Kw.R_add (c := ((i + 1 : Nat) : Int)) rfl rfl (by rw [Kw.wrap_i64 (by omega)]; omega)) ?_
      refine Kw.WX_take rfl rfl rfl rfl (fun _ _ _ h => h) hS (fun _ ⟨_, _⟩ => Kw.R_slices (i := i) (j := (i + 1 : Nat)) (r := (bA [y])) Tryd.underlying9 rfl ⟨_, rfl⟩ ⟨_, rfl⟩ (by omega) (by omega) (by rw [hy]; exact ex_one s hi3)) ?_
      refine Kw.WX_v rfl rfl rfl rfl (Kw.R_load1 (v := .string (bA (W.getD (W.length - 1) []))) rfl Tryd.underlying9 rfl A_gv (words_at h4v rfl (by omega))) hS ?_
      refine Kw.WX_take rfl rfl rfl rfl (fun _ _ _ h => h) hS (fun _ ⟨_, _⟩ => Kw.R_adds (r := (bA (W.getD (W.length - 1) [] ++ [y]))) rfl rfl (by rw [bA_size, bA_size, List.length_singleton]; have := getD_le hWw (W.length - 1); omega) (bA_app _ _)) ?_
      refine Kw.WX_take rfl rfl rfl rfl (fun _ _ _ h => h) hS (fun _ ⟨_, _⟩ => Kw.R_indexAddrS (i := (W.length - 1 : Nat)) (o' := (W.length - 1 : Nat)) rfl rfl Tryd.underlying61 F.sz9 (by omega) (by omega)) ?_
      refine WX_store1 (ds := (curv.setIfInBounds (W.length - 1) (.string (bA (W.getD (W.length - 1) [] ++ [y]))))) rfl rfl rfl rfl F.sz9 A_gv (hlast) rfl rfl (rfl) ?_; intro w15 M_gv
      replace A_gv : Kw.At w15 gv (curv.setIfInBounds (W.length - 1) (.string (bA (W.getD (W.length - 1) [] ++ [y])))) 9 := M_gv.at_ A_gv
      replace HB := M_gv.below HB G_gv; clear M_gv
      clear hS; have hS : True ∧ True := ⟨trivial, trivial⟩
      refine ⟨hS, ?_⟩
      obtain ⟨vn, hvn⟩ : ∃ x : Value, x = .slice (some ⟨gv, 0, none⟩) W.length capv := ⟨_, rfl⟩
      rw [← hvn]
      have O_vn : Kw.Own w15 w.heap.size 9 1 vn (W.set (W.length - 1) (W.getD (W.length - 1) [] ++ [y])).length (wsV (W.set (W.length - 1) (W.getD (W.length - 1) [] ++ [y]))) := by
        rw [hvn, List.length_set, ← words_set h4v]; exact Kw.Own.made G_gv A_gv h1v h2v (by rw [Array.size_setIfInBounds]; exact h3v)
      clear A_gv
      refine Kw.WX_nil ?_
      clear hS
      refine Kw.QN_block ?_
      refine hK10 _ _ ?_; clear hK10 K10
      refine Kw.WC_sub (l' := [(0, .string s), (3, vn), (4, .int .i64 (i : Int))]) (Kw.Sub.cons rfl (Kw.Sub.cons rfl (Kw.Sub.cons rfl Kw.Sub.nil))) ?_
      refine Kw.WC_region [some 10, some 11, some 4] rfl ?_
      refine Kw.WL_v rfl rfl rfl (Kw.R_move rfl) ?_
      refine Kw.WL_v rfl rfl rfl (Kw.R_add (c := ((i + 1 : Nat) : Int)) rfl rfl (by rw [Kw.wrap_i64 (by omega)]; omega)) ?_
      refine Kw.WL_v rfl rfl rfl (Kw.R_assign rfl) ?_
      refine Kw.WL_nil ?_
      refine Kw.QN_round ((i + 1, W.set (W.length - 1) (W.getD (W.length - 1) [] ++ [y]), vn)) ⟨⟨by (try dsimp only); omega, by (try dsimp only); exact (by rw [take_snocL hi3, ← hy, split_snoc _ _ hy32, ← hW])⟩, O_vn, HB⟩ (by dsimp only; omega) (Kw.Sub.cons rfl (Kw.Sub.cons rfl (Kw.Sub.cons rfl Kw.Sub.nil)))
  ·
    refine Kw.WL_v rfl rfl rfl (Kw.R_lss (z := false) rfl rfl (decide_eq_false c9)) ?_
    rw [List.take_of_length_le (by rw [size_list]; omega)] at hW
    subst hW
    refine Kw.WL_nil ?_
    refine hK8 _ _ ?_; clear hK8 K8
    refine Kw.WC_false rfl ?_
    refine Kw.WC_exit ?_
    refine Kw.QE_then ?_; clear hK7 K7
    refine Kw.QE_then ?_
    refine Kw.QE_here ?_
    refine hK4 _ _ ?_; clear hK4 K4
    refine Kw.WC_sub (l' := [(3, v)]) (Kw.Sub.cons rfl Kw.Sub.nil) ?_
    refine Kw.WC_seq (fun K16 hK16 => ?_)
    refine Kw.WC_region [some 36, some 2] rfl ?_
    refine Kw.WL_v rfl rfl rfl (Kw.R_move rfl) ?_
    refine Kw.WL_v rfl rfl rfl (Kw.R_assign rfl) ?_
    refine Kw.WL_nil ?_
    refine hK16 _ _ ?_; clear hK16 K16
    refine Kw.WC_ret ?_
    exact Kw.post_ret1 rfl rfl ⟨_, rfl, ⟨O_v, HB⟩⟩
theorem wordK_ne : ∀ k, 1 ≤ k → k ≤ 13 → wordL k ≠ [] := by
  intro k h1 h2
  have : k = 1 ∨ k = 2 ∨ k = 3 ∨ k = 4 ∨ k = 5 ∨ k = 6 ∨ k = 7 ∨ k = 8 ∨ k = 9 ∨ k = 10 ∨ k = 11 ∨ k = 12 ∨ k = 13 := by omega
  rcases this with rfl | rfl | rfl | rfl | rfl | rfl | rfl | rfl | rfl | rfl | rfl | rfl | rfl <;> decide
theorem wordK_empty {kd a b c : Int} {t : ByteArray} (h : wordK kd = []) : ¬ good ⟨kd, a, b, c, t⟩ := by
  rintro ⟨h1, h2⟩
  dsimp only at h1 h2
  unfold wordK at h
  rw [if_pos ⟨h1, h2⟩] at h
  exact wordK_ne kd.toNat (by omega) (by omega) h
theorem wordK_some {kd : Int} (h : wordK kd ≠ []) : 1 ≤ kd ∧ kd ≤ 13 := by
  by_cases e : 1 ≤ kd ∧ kd ≤ 13
  · exact e
  · exact absurd (if_neg e) h
theorem wordK_eq {k : Nat} (h : 1 ≤ k ∧ k ≤ 13) : wordK (k : Int) = wordL k ∧ numK (k : Int) = numsN k ∧ txtK (k : Int) = txtB k := by
  unfold wordK numK txtK
  rw [if_pos (by omega), if_pos (by omega), if_pos (by omega)]
  exact ⟨rfl, rfl, rfl⟩
theorem join_snoc : ∀ (ws : List (List UInt8)) (w : List UInt8), ws ≠ [] → Lib.join (ws ++ [w]) [32] = Lib.join ws [32] ++ [32] ++ w
  | [], w, h => absurd rfl h
  | [x], w, _ => by simp [Lib.join, List.intercalate, List.intersperse]
  | x :: y :: ws, w, _ => by
    have e : ∀ r : List (List UInt8), r ≠ [] → Lib.join (x :: r) [32] = x ++ 32 :: Lib.join r [32] := by
      intro r hr
      cases r with
      | nil => exact absurd rfl hr
      | cons v vs => simp [Lib.join, List.intercalate, List.intersperse]
    have ih := join_snoc (y :: ws) w (by simp)
    rw [List.cons_append, e _ (by simp), ih, e _ (by simp)]
    simp
abbrev JL (k : Nat) (a b c : Int) (i : Nat) : List (List UInt8) := wordL k :: ([a, b, c].take i).map itoaL
theorem JL_len (k : Nat) (a b c : Int) (i : Nat) : (Lib.join (JL k a b c i) [32]).length ≤ 100 := by
  have h1 := join_len (JL k a b c i)
  have h2 := wordL_len k
  have h4 := sumL_itoa ([a, b, c].take i)
  have h3 : ([a, b, c].take i).length ≤ 3 := by rw [List.length_take]; simp; omega
  rw [sumL, List.length_cons, List.length_map] at h1
  omega
theorem JL_one (k : Nat) (a b c : Int) : Lib.join (JL k a b c 0) [32] = wordL k := by
  show Lib.join [wordL k] [32] = _
  simp [Lib.join, List.intercalate]
theorem JL_snoc (k : Nat) (a b c : Int) {i : Nat} (h : i < 3) : bA (Lib.join (JL k a b c i) [32]) ++ ⟨#[32]⟩ ++ bA (itoaL (abc a b c i)) = bA (Lib.join (JL k a b c (i + 1)) [32]) := by
  show bA _ ++ bA [32] ++ _ = _
  rw [bA_app, bA_app]
  unfold JL
  rw [abc_list a b c i h, List.map_append, ← List.cons_append]
  show bA _ = bA (Lib.join ((wordL k :: ([a, b, c].take i).map itoaL) ++ [itoaL (abc a b c i)]) [32])
  rw [join_snoc _ _ (by simp)]
theorem JL_hex {k : Nat} {a b c : Int} {t : ByteArray} (h : txtB k = true) : bA (Lib.join (JL k a b c (numsN k)) [32]) ++ ⟨#[32]⟩ ++ bA (hexL t.data.toList) = bA (Lib.join (wordsOf ⟨k, a, b, c, t⟩) [32]) := by
  show bA _ ++ bA [32] ++ _ = _
  rw [bA_app, bA_app, words_t h, join_snoc _ _ (by simp)]
theorem JL_no {k : Nat} {a b c : Int} {t : ByteArray} (h : txtB k = false) : JL k a b c (numsN k) = wordsOf ⟨k, a, b, c, t⟩ := by rw [words_f h]
theorem decimal_w (n : Int) (h : i64 n) (w : World) : Calls Tryd.prog 31 #[.int .i64 n] w fun e w' => e = .returned (.string (bA (itoaL n))) ∧ w' = w := by
  rw [itoaL_eq h]; exact decimal_c (n.natAbs + 1) n (by omega) h w

set_option maxRecDepth 100000 in
set_option maxHeartbeats 4000000 in
theorem rline_c (x : Stp) (ok : okS x) (ht : x.t.size ≤ 10000000) (w : World) : Calls Tryd.prog 19 #[.agg (stpCells x)] w fun e w' => e = .returned (.string (lineB x)) ∧ Below w.heap.size w w' := by
  have HB : Below w.heap.size w w := Below.refl _ _
  obtain ⟨kd, a, b, c, t⟩ := x
  dsimp only at ht
  refine Kw.enter Tryd.func19 rfl Tryd.ntmps19 rfl rfl ?_
  refine Kw.WC_seq (fun K1 hK1 => ?_)
  refine Kw.WC_region [some 1, some 2] rfl ?_
  refine Kw.WL_box rfl rfl rfl ?_; intro gx w2 N_gx
  have A_gx : Kw.At w2 gx #[.int .i64 kd, .int .i64 a, .int .i64 b, .int .i64 c, .string t] 35 := N_gx.at_
  have G_gx := N_gx.ge HB (Nat.le_refl _); replace HB := N_gx.below HB (Nat.le_refl _); clear N_gx
  refine Kw.WL_v rfl rfl rfl (Kw.R_assign rfl) ?_
  refine Kw.WL_nil ?_
  refine hK1 _ _ ?_; clear hK1 K1
  refine Kw.WC_seq (fun K3 hK3 => ?_)
  refine Kw.WC_region [some 6, some 7, some 8, some 3] rfl ?_
  refine Kw.WL_v rfl rfl rfl (Kw.R_fieldAddr (o' := 0) (k := 0) rfl Tryd.underlying35 rfl F.sz3 rfl) ?_
  refine Kw.WL_v rfl rfl rfl (Kw.R_load1 (v := .int .i64 kd) rfl Tryd.underlying3 rfl A_gx rfl) ?_
  refine Kw.WL_callc rfl rfl rfl rfl F.cl29 rfl (word_c kd w2) ?_; intro ww hww; rw [hww]; clear hww ww
  refine Kw.WL_v rfl rfl rfl (Kw.R_assign rfl) ?_
  refine Kw.WL_nil ?_
  refine hK3 _ _ ?_; clear hK3 K3
  refine Kw.WC_seq (fun K4 hK4 => ?_)
  refine Kw.WC_seq (fun K5 hK5 => ?_)
  refine Kw.WC_region [some 9, some 10] rfl ?_
  refine Kw.WL_v rfl rfl rfl (Kw.R_move rfl) ?_
  by_cases cw : bA (wordK kd) = ⟨#[]⟩
  ·
    refine Kw.WL_v rfl rfl rfl (Kw.R_eqs (z := true) rfl rfl (decide_eq_true cw)) ?_
    refine Kw.WL_nil ?_
    refine hK5 _ _ ?_; clear hK5 K5
    refine Kw.WC_sub (l' := [(1, .pointer (some ⟨gx, 0, none⟩)), (3, .string (bA (wordK kd))), (10, .bool true)]) (Kw.Sub.cons rfl (Kw.Sub.cons rfl (Kw.Sub.cons rfl Kw.Sub.nil))) ?_
    refine Kw.WC_true rfl ?_
    refine Kw.WC_seq (fun K6 hK6 => ?_)
    refine Kw.WC_region [some 2] rfl ?_
    refine Kw.WL_v rfl rfl rfl (Kw.R_assign rfl) ?_
    refine Kw.WL_nil ?_
    refine hK6 _ _ ?_; clear hK6 K6
    refine Kw.WC_ret ?_
    refine Kw.QR_then ?_; clear hK4 K4
    exact Kw.post_ret1 rfl rfl ⟨by rw [← lineB_bad (x := ⟨kd, a, b, c, t⟩) (wordK_empty (bA_nil cw))], HB⟩
  ·
    refine Kw.WL_v rfl rfl rfl (Kw.R_eqs (z := false) rfl rfl (decide_eq_false cw)) ?_
    have hkr := wordK_some (kd := kd) (fun e => cw (by rw [e]; rfl))
    obtain ⟨k, rfl⟩ : ∃ k : Nat, kd = k := ⟨kd.toNat, by omega⟩
    have hg : good ⟨(k : Int), a, b, c, t⟩ := ⟨hkr.1, hkr.2⟩
    have hke := wordK_eq (k := k) (by omega)
    obtain ⟨tx, htx⟩ : ∃ z, txtB k = z := ⟨_, rfl⟩
    have hn3 := numsN_le k
    have hwl := words_len ⟨(k : Int), a, b, c, t⟩
    dsimp only at hwl
    rw [hke.1, ← JL_one k a b c]
    refine Kw.WL_nil ?_
    refine hK5 _ _ ?_; clear hK5 K5
    refine Kw.WC_sub (l' := [(1, .pointer (some ⟨gx, 0, none⟩)), (3, .string (bA (Lib.join (JL k a b c 0) [32]))), (10, .bool false)]) (Kw.Sub.cons rfl (Kw.Sub.cons rfl (Kw.Sub.cons rfl Kw.Sub.nil))) ?_
    refine Kw.WC_false rfl ?_
    refine Kw.WC_skip ?_
    refine hK4 _ _ ?_; clear hK4 K4
    refine Kw.WC_seq (fun K7 hK7 => ?_)
    refine Kw.WC_region [some 11, some 12, some 13, some 14, some 15, some 16, some 17, some 4, none] rfl ?_
    refine Kw.WL_v rfl rfl rfl (Kw.R_fieldAddr (o' := 1) (k := 0) rfl Tryd.underlying35 rfl F.sz3 rfl) ?_
    refine Kw.WL_v rfl rfl rfl (Kw.R_load1 (v := .int .i64 a) rfl Tryd.underlying3 rfl A_gx rfl) ?_
    refine Kw.WL_v rfl rfl rfl (Kw.R_fieldAddr (o' := 2) (k := 0) rfl Tryd.underlying35 rfl F.sz3 rfl) ?_
    refine Kw.WL_v rfl rfl rfl (Kw.R_load1 (v := .int .i64 b) rfl Tryd.underlying3 rfl A_gx rfl) ?_
    refine Kw.WL_v rfl rfl rfl (Kw.R_fieldAddr (o' := 3) (k := 0) rfl Tryd.underlying35 rfl F.sz3 rfl) ?_
    refine Kw.WL_v rfl rfl rfl (Kw.R_load1 (v := .int .i64 c) rfl Tryd.underlying3 rfl A_gx rfl) ?_
    refine Kw.WL_v rfl rfl rfl (Kw.R_build (cs := #[.int .i64 a, .int .i64 b, .int .i64 c]) rfl (fun w => by kernel_rfl)) ?_
    refine Kw.WL_alloc rfl rfl F.zr72 ?_; intro gl w8 N_gl
    have L_gx_gl := N_gl.ne A_gx; replace A_gx := N_gl.keep A_gx
    have A_gl : Kw.At w8 gl F.Z72 72 := N_gl.at_
    have G_gl := N_gl.ge HB (Nat.le_refl _); replace HB := N_gl.below HB (Nat.le_refl _); clear N_gl
    refine Kw.WL_storeW rfl rfl rfl (by exact F.sz72) A_gl rfl rfl ?_; intro w9 M_gl
    replace A_gx := M_gl.keep A_gx (Nat.ne_of_lt L_gx_gl)
    replace A_gl : Kw.At w9 gl #[.int .i64 a, .int .i64 b, .int .i64 c] 72 := M_gl.at_ A_gl
    replace HB := M_gl.below HB G_gl; clear M_gl
    refine Kw.WL_nil ?_
    refine hK7 _ _ ?_; clear hK7 K7
    refine Kw.WC_sub (l' := [(1, .pointer (some ⟨gx, 0, none⟩)), (3, .string (bA (Lib.join (JL k a b c 0) [32]))), (4, .pointer (some ⟨gl, 0, none⟩))]) (Kw.Sub.cons rfl (Kw.Sub.cons rfl (Kw.Sub.cons rfl Kw.Sub.nil))) ?_
    refine Kw.WC_seq (fun K10 hK10 => ?_)
    refine Kw.WC_seq (fun K11 hK11 => ?_)
    refine Kw.WC_region [some 5] rfl ?_
    refine Kw.WL_v rfl rfl rfl (Kw.R_assign rfl) ?_
    refine Kw.WL_nil ?_
    refine hK11 _ _ ?_; clear hK11 K11
    refine Kw.WC_block ?_
    refine Kw.WC_loop (ι := Nat) (fun (i : Nat) (ww : World) => (i ≤ numsN k) ∧ Kw.At ww gx #[.int .i64 (k : Int), .int .i64 a, .int .i64 b, .int .i64 c, .string t] 35 ∧ Kw.At ww gl #[.int .i64 a, .int .i64 b, .int .i64 c] 72 ∧ Below w.heap.size w ww) (fun (i : Nat) => [(1, .pointer (some ⟨gx, 0, none⟩)), (3, .string (bA (Lib.join (JL k a b c i) [32]))), (4, .pointer (some ⟨gl, 0, none⟩)), (5, .int .i64 (i : Int))]) (fun (i : Nat) => numsN k - i) 0 ⟨Nat.zero_le _, A_gx, A_gl, HB⟩ (Kw.Sub.cons rfl (Kw.Sub.cons rfl (Kw.Sub.cons rfl (Kw.Sub.cons rfl Kw.Sub.nil)))) ?_
    clear A_gx
    clear A_gl
    clear HB
    rintro i w12 ⟨hi, A_gx, A_gl, HB⟩
    refine Kw.WC_seq (fun K13 hK13 => ?_)
    refine Kw.WC_seq (fun K14 hK14 => ?_)
    refine Kw.WC_region [some 18, some 19, some 20, some 21, some 22] rfl ?_
    refine Kw.WL_v rfl rfl rfl (Kw.R_move rfl) ?_
    refine Kw.WL_v rfl rfl rfl (Kw.R_fieldAddr (o' := 0) (k := 0) rfl Tryd.underlying35 rfl F.sz3 rfl) ?_
    refine Kw.WL_v rfl rfl rfl (Kw.R_load1 (v := .int .i64 (k : Int)) rfl Tryd.underlying3 rfl A_gx rfl) ?_
    refine Kw.WL_callc rfl rfl rfl rfl F.cl30 rfl ((by have := numbers_c (k : Int) w12; rw [hke.2.1] at this; exact this)) ?_; intro ww hww; rw [hww]; clear hww ww
    by_cases c15 : (i : Int) < (numsN k : Int)
    ·
      refine Kw.WL_v rfl rfl rfl (Kw.R_lss (z := true) rfl rfl (decide_eq_true c15)) ?_
      have hJ := JL_len k a b c i
      have hJ1 := itoaL_len (abc a b c i)
      refine Kw.WL_nil ?_
      refine hK14 _ _ ?_; clear hK14 K14
      refine Kw.WC_true rfl ?_
      refine Kw.WC_skip ?_
      refine hK13 _ _ ?_; clear hK13 K13
      refine Kw.WC_seq (fun K16 hK16 => ?_)
      refine Kw.WC_block ?_
      refine Kw.WC_region [some 25, some 26, some 27, some 28, some 29, some 30, some 31, some 3] rfl ?_
      refine Kw.WL_v rfl rfl rfl (Kw.R_move rfl) ?_
      refine Kw.WL_v rfl rfl rfl (Kw.R_adds (r := (bA (Lib.join (JL k a b c i) [32]) ++ ⟨#[32]⟩)) rfl rfl (by rw [bA_size]; show _ + 1 ≤ _; omega) (rfl)) ?_
      refine Kw.WL_v rfl rfl rfl (Kw.R_move rfl) ?_
      refine Kw.WL_v rfl rfl rfl (Kw.R_indexAddrA (i := i) (o' := i) rfl rfl Tryd.underlying72 F.sz3 (by omega) (by omega)) ?_
      refine Kw.WL_v rfl rfl rfl (Kw.R_load1 (v := .int .i64 (abc a b c i)) rfl Tryd.underlying3 rfl A_gl (abc_at a b c i (by omega))) ?_
      refine Kw.WL_callc rfl rfl rfl rfl F.cl31 rfl (decimal_w (abc a b c i) (abc_i64 ok.2.1 ok.2.2.1 ok.2.2.2 i) w12) ?_; intro ww hww; rw [hww]; clear hww ww
      refine Kw.WL_v rfl rfl rfl (Kw.R_adds (r := (bA (Lib.join (JL k a b c (i + 1)) [32]))) rfl rfl (by rw [show (bA (Lib.join (JL k a b c i) [32]) ++ ⟨#[32]⟩).size = (bA (Lib.join (JL k a b c i) [32])).size + 1 from ByteArray.size_append, bA_size, bA_size]; omega) (JL_snoc k a b c (by omega))) ?_
      refine Kw.WL_v rfl rfl rfl (Kw.R_assign rfl) ?_
      refine Kw.WL_nil ?_
      refine Kw.QN_block ?_
      refine hK16 _ _ ?_; clear hK16 K16
      refine Kw.WC_sub (l' := [(1, .pointer (some ⟨gx, 0, none⟩)), (3, .string (bA (Lib.join (JL k a b c (i + 1)) [32]))), (4, .pointer (some ⟨gl, 0, none⟩)), (5, .int .i64 (i : Int))]) (Kw.Sub.cons rfl (Kw.Sub.cons rfl (Kw.Sub.cons rfl (Kw.Sub.cons rfl Kw.Sub.nil)))) ?_
      refine Kw.WC_region [some 23, some 24, some 5] rfl ?_
      refine Kw.WL_v rfl rfl rfl (Kw.R_move rfl) ?_
      refine Kw.WL_v rfl rfl rfl (Kw.R_add (c := ((i + 1 : Nat) : Int)) rfl rfl (by rw [Kw.wrap_i64 (by omega)]; omega)) ?_
      refine Kw.WL_v rfl rfl rfl (Kw.R_assign rfl) ?_
      refine Kw.WL_nil ?_
      refine Kw.QN_round (i + 1) ⟨by omega, A_gx, A_gl, HB⟩ (by omega) (Kw.Sub.cons rfl (Kw.Sub.cons rfl (Kw.Sub.cons rfl (Kw.Sub.cons rfl Kw.Sub.nil))))
    ·
      refine Kw.WL_v rfl rfl rfl (Kw.R_lss (z := false) rfl rfl (decide_eq_false c15)) ?_
      obtain rfl : i = (numsN k) := by omega
      have hJ := JL_len k a b c (numsN k)
      refine Kw.WL_nil ?_
      refine hK14 _ _ ?_; clear hK14 K14
      refine Kw.WC_false rfl ?_
      refine Kw.WC_exit ?_
      refine Kw.QE_then ?_; clear hK13 K13
      refine Kw.QE_then ?_
      refine Kw.QE_here ?_
      refine hK10 _ _ ?_; clear hK10 K10
      refine Kw.WC_sub (l' := [(1, .pointer (some ⟨gx, 0, none⟩)), (3, .string (bA (Lib.join (JL k a b c (numsN k)) [32])))]) (Kw.Sub.cons rfl (Kw.Sub.cons rfl Kw.Sub.nil)) ?_
      refine Kw.WC_seq (fun K17 hK17 => ?_)
      refine Kw.WC_seq (fun K18 hK18 => ?_)
      refine Kw.WC_region [some 32, some 33, some 34] rfl ?_
      refine Kw.WL_v rfl rfl rfl (Kw.R_fieldAddr (o' := 0) (k := 0) rfl Tryd.underlying35 rfl F.sz3 rfl) ?_
      refine Kw.WL_v rfl rfl rfl (Kw.R_load1 (v := .int .i64 (k : Int)) rfl Tryd.underlying3 rfl A_gx rfl) ?_
      refine Kw.WL_callc rfl rfl rfl rfl F.cl32 rfl ((by have := texts_c (k : Int) w12; rw [hke.2.2, htx] at this; exact this)) ?_; intro ww hww; rw [hww]; clear hww ww
      refine Kw.WL_nil ?_
      refine hK18 _ _ ?_; clear hK18 K18
      refine Kw.WC_cond rfl (fun q19 => ?_) (fun q19 => ?_)
      ·
        subst q19
        refine Kw.WC_region [some 35, some 36, some 37, some 38, some 39, some 40, some 3] rfl ?_
        refine Kw.WL_v rfl rfl rfl (Kw.R_move rfl) ?_
        refine Kw.WL_v rfl rfl rfl (Kw.R_adds (r := (bA (Lib.join (JL k a b c (numsN k)) [32]) ++ ⟨#[32]⟩)) rfl rfl (by rw [bA_size]; show _ + 1 ≤ _; omega) (rfl)) ?_
        refine Kw.WL_v rfl rfl rfl (Kw.R_fieldAddr (o' := 4) (k := 0) rfl Tryd.underlying35 rfl F.sz9 rfl) ?_
        refine Kw.WL_v rfl rfl rfl (Kw.R_load1 (v := .string t) rfl Tryd.underlying9 rfl A_gx rfl) ?_
        refine Kw.WL_callc rfl rfl rfl rfl F.cl33 rfl (bytes_c t (by omega) w12) ?_; intro w20 bw20
        replace A_gx := A_gx.call bw20
        replace A_gl := A_gl.call bw20
        replace HB := Kw.Below.then HB (Nat.le_refl _) bw20
        clear bw20
        refine Kw.WL_v rfl rfl rfl (Kw.R_adds (r := (bA (Lib.join (wordsOf ⟨(k : Int), a, b, c, t⟩) [32]))) rfl rfl (by rw [show (bA (Lib.join (JL k a b c (numsN k)) [32]) ++ ⟨#[32]⟩).size = (bA (Lib.join (JL k a b c (numsN k)) [32])).size + 1 from ByteArray.size_append, bA_size, bA_size, hexL_len, size_list]; omega) (JL_hex htx)) ?_
        refine Kw.WL_v rfl rfl rfl (Kw.R_assign rfl) ?_
        refine Kw.WL_nil ?_
        refine hK17 _ _ ?_; clear hK17 K17
        refine Kw.WC_sub (l' := [(3, .string (bA (Lib.join (wordsOf ⟨(k : Int), a, b, c, t⟩) [32])))]) (Kw.Sub.cons rfl Kw.Sub.nil) ?_
        refine Kw.WC_seq (fun K21 hK21 => ?_)
        refine Kw.WC_region [some 41, some 42, some 2] rfl ?_
        refine Kw.WL_v rfl rfl rfl (Kw.R_move rfl) ?_
        refine Kw.WL_v rfl rfl rfl (Kw.R_adds (r := (lineB ⟨(k : Int), a, b, c, t⟩)) rfl rfl (by rw [bA_size]; show _ + 1 ≤ _; omega) (lineB_good hg)) ?_
        refine Kw.WL_v rfl rfl rfl (Kw.R_assign rfl) ?_
        refine Kw.WL_nil ?_
        refine hK21 _ _ ?_; clear hK21 K21
        refine Kw.WC_ret ?_
        exact Kw.post_ret1 rfl rfl ⟨rfl, HB⟩
      ·
        subst q19
        refine Kw.WC_skip ?_
        refine hK17 _ _ ?_; clear hK17 K17
        refine Kw.WC_seq (fun K22 hK22 => ?_)
        refine Kw.WC_region [some 41, some 42, some 2] rfl ?_
        rw [JL_no (a := a) (b := b) (c := c) (t := t) htx]
        refine Kw.WL_v rfl rfl rfl (Kw.R_move rfl) ?_
        refine Kw.WL_v rfl rfl rfl (Kw.R_adds (r := (lineB ⟨(k : Int), a, b, c, t⟩)) rfl rfl (by rw [bA_size]; show _ + 1 ≤ _; omega) (lineB_good hg)) ?_
        refine Kw.WL_v rfl rfl rfl (Kw.R_assign rfl) ?_
        refine Kw.WL_nil ?_
        refine hK22 _ _ ?_; clear hK22 K22
        refine Kw.WC_sub (l' := [(2, .string (lineB ⟨(k : Int), a, b, c, t⟩))]) (Kw.Sub.cons rfl Kw.Sub.nil) ?_
        refine Kw.WC_ret ?_
        exact Kw.post_ret1 rfl rfl ⟨rfl, HB⟩
end Go.Proofs.YtpggmnomcahijaaDoor.Fn
