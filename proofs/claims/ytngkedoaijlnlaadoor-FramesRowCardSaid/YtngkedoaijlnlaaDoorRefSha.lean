/- The reference of layer 2: a digit's value, Parse and Hex as contracts. -/
import Derived.Test.YtngkedoaijlnlaaDoorKf
import Derived.Test.YtngkedoaijlnlaaDoorBackLaws
namespace Go.Proofs.YtngkedoaijlnlaaDoor.Fn
open Go Go.Proofs Go.RowKit Go.Proofs.YtngkedoaijlnlaaDoorW.PrintWords Go.Proofs.YtngkedoaijlnlaaDoorW.PrintLast Go.Proofs.YtngkedoaijlnlaaDoorW.PrintMore
set_option linter.unusedVariables false
set_option linter.unusedSimpArgs false
set_option maxRecDepth 100000 in
set_option maxHeartbeats 4000000 in
theorem value_c (c : Int) (h : 0 ≤ c ∧ c ≤ 255) (w : World) : Calls Tryd.prog 30 #[.int .u8 c] w fun e w' => e = .returned (.int .i64 (digit c)) ∧ w' = w := by
  have HB : Below w.heap.size w w := Below.refl _ _
  refine Kw.enter Tryd.func30 rfl Tryd.ntmps30 rfl rfl ?_
  refine Kw.WC_seq (fun K1 hK1 => ?_)
  refine Kw.WC_region [some 2] rfl ?_
  refine Kw.WL_v rfl rfl rfl (Kw.R_assign rfl) ?_
  refine Kw.WL_nil ?_
  refine hK1 _ _ ?_; clear hK1 K1
  refine Kw.WC_seq (fun K2 hK2 => ?_)
  refine Kw.WC_seq (fun K3 hK3 => ?_)
  refine Kw.WC_region [some 3, some 4, some 5, some 6, some 7, some 8] rfl ?_
  refine Kw.WL_v rfl rfl rfl (Kw.R_move rfl) ?_
  by_cases c4 : (48 : Int) ≤ c
  ·
    refine Kw.WL_v rfl rfl rfl (Kw.R_geq (z := true) rfl rfl (decide_eq_true c4)) ?_
    refine Kw.WL_v rfl rfl rfl (Kw.R_move rfl) ?_
    refine Kw.WL_v rfl rfl rfl (Kw.R_move rfl) ?_
    by_cases c5 : (c : Int) ≤ 57
    ·
      refine Kw.WL_v rfl rfl rfl (Kw.R_leq (z := true) rfl rfl (decide_eq_true c5)) ?_
      refine Kw.WL_v rfl rfl rfl (Kw.R_pickt rfl rfl) ?_
      refine Kw.WL_nil ?_
      refine hK3 _ _ ?_; clear hK3 K3
      refine Kw.WC_sub (l' := [(0, .int .u8 c), (8, .bool true)]) (Kw.Sub.cons rfl (Kw.Sub.cons rfl Kw.Sub.nil)) ?_
      refine Kw.WC_true rfl ?_
      refine Kw.WC_seq (fun K6 hK6 => ?_)
      refine Kw.WC_region [some 9, some 10, some 11, some 2] rfl ?_
      refine Kw.WL_v rfl rfl rfl (Kw.R_move rfl) ?_
      obtain ⟨x7, hx7⟩ : ∃ x : Int, x = (c - 48) % 256 := ⟨_, rfl⟩
      refine Kw.WL_v rfl rfl rfl (Kw.R_sub (c := x7) rfl rfl (by rw [Kw.wrap_u8]; rw [hx7])) ?_
      refine Kw.WL_v rfl rfl rfl (Kw.R_conv (c := x7) Tryd.underlying5 Tryd.underlying3 rfl (Kw.wrap_i64 (by omega))) ?_
      refine Kw.WL_v rfl rfl rfl (Kw.R_assign rfl) ?_
      refine Kw.WL_nil ?_
      refine hK6 _ _ ?_; clear hK6 K6
      refine Kw.WC_ret ?_
      refine Kw.QR_then ?_; clear hK2 K2
      refine Kw.post_ret1 (v := .int .i64 x7) rfl rfl ⟨?_, rfl⟩
      exact Kw.ret_int (by unfold digit; first | (rw [if_pos (by omega)]; omega) | (rw [if_neg (by omega), if_pos (by omega)]; omega) | rw [if_neg (by omega), if_neg (by omega)])
    ·
      refine Kw.WL_v rfl rfl rfl (Kw.R_leq (z := false) rfl rfl (decide_eq_false c5)) ?_
      refine Kw.WL_v rfl rfl rfl (Kw.R_pickt rfl rfl) ?_
      refine Kw.WL_nil ?_
      refine hK3 _ _ ?_; clear hK3 K3
      refine Kw.WC_sub (l' := [(0, .int .u8 c), (8, .bool false)]) (Kw.Sub.cons rfl (Kw.Sub.cons rfl Kw.Sub.nil)) ?_
      refine Kw.WC_false rfl ?_
      refine Kw.WC_skip ?_
      refine hK2 _ _ ?_; clear hK2 K2
      refine Kw.WC_seq (fun K8 hK8 => ?_)
      refine Kw.WC_seq (fun K9 hK9 => ?_)
      refine Kw.WC_region [some 12, some 13, some 14, some 15, some 16, some 17] rfl ?_
      refine Kw.WL_v rfl rfl rfl (Kw.R_move rfl) ?_
      by_cases c10 : (97 : Int) ≤ c
      ·
        refine Kw.WL_v rfl rfl rfl (Kw.R_geq (z := true) rfl rfl (decide_eq_true c10)) ?_
        refine Kw.WL_v rfl rfl rfl (Kw.R_move rfl) ?_
        refine Kw.WL_v rfl rfl rfl (Kw.R_move rfl) ?_
        by_cases c11 : (c : Int) ≤ 102
        ·
          refine Kw.WL_v rfl rfl rfl (Kw.R_leq (z := true) rfl rfl (decide_eq_true c11)) ?_
          refine Kw.WL_v rfl rfl rfl (Kw.R_pickt rfl rfl) ?_
          refine Kw.WL_nil ?_
          refine hK9 _ _ ?_; clear hK9 K9
          refine Kw.WC_sub (l' := [(0, .int .u8 c), (17, .bool true)]) (Kw.Sub.cons rfl (Kw.Sub.cons rfl Kw.Sub.nil)) ?_
          refine Kw.WC_true rfl ?_
          refine Kw.WC_seq (fun K12 hK12 => ?_)
          refine Kw.WC_region [some 18, some 19, some 20, some 21, some 2] rfl ?_
          refine Kw.WL_v rfl rfl rfl (Kw.R_move rfl) ?_
          obtain ⟨x13, hx13⟩ : ∃ x : Int, x = (c - 97) % 256 := ⟨_, rfl⟩
          refine Kw.WL_v rfl rfl rfl (Kw.R_sub (c := x13) rfl rfl (by rw [Kw.wrap_u8]; rw [hx13])) ?_
          refine Kw.WL_v rfl rfl rfl (Kw.R_conv (c := x13) Tryd.underlying5 Tryd.underlying3 rfl (Kw.wrap_i64 (by omega))) ?_
          obtain ⟨x14, hx14⟩ : ∃ x : Int, x = x13 + 10 := ⟨_, rfl⟩
          refine Kw.WL_v rfl rfl rfl (Kw.R_add (c := x14) rfl rfl (by rw [Kw.wrap_i64 (by omega)]; rw [hx14])) ?_
          refine Kw.WL_v rfl rfl rfl (Kw.R_assign rfl) ?_
          refine Kw.WL_nil ?_
          refine hK12 _ _ ?_; clear hK12 K12
          refine Kw.WC_sub (l' := [(2, .int .i64 x14)]) (Kw.Sub.cons rfl Kw.Sub.nil) ?_
          refine Kw.WC_ret ?_
          refine Kw.QR_then ?_; clear hK8 K8
          refine Kw.post_ret1 (v := .int .i64 x14) rfl rfl ⟨?_, rfl⟩
          exact Kw.ret_int (by unfold digit; first | (rw [if_pos (by omega)]; omega) | (rw [if_neg (by omega), if_pos (by omega)]; omega) | rw [if_neg (by omega), if_neg (by omega)])
        ·
          refine Kw.WL_v rfl rfl rfl (Kw.R_leq (z := false) rfl rfl (decide_eq_false c11)) ?_
          refine Kw.WL_v rfl rfl rfl (Kw.R_pickt rfl rfl) ?_
          refine Kw.WL_nil ?_
          refine hK9 _ _ ?_; clear hK9 K9
          refine Kw.WC_sub (l' := [(0, .int .u8 c), (17, .bool false)]) (Kw.Sub.cons rfl (Kw.Sub.cons rfl Kw.Sub.nil)) ?_
          refine Kw.WC_false rfl ?_
          refine Kw.WC_skip ?_
          refine hK8 _ _ ?_; clear hK8 K8
          refine Kw.WC_seq (fun K15 hK15 => ?_)
          refine Kw.WC_region [some 2] rfl ?_
          refine Kw.WL_v rfl rfl rfl (Kw.R_assign rfl) ?_
          refine Kw.WL_nil ?_
          refine hK15 _ _ ?_; clear hK15 K15
          refine Kw.WC_ret ?_
          refine Kw.post_ret1 (v := .int .i64 (-1)) rfl rfl ⟨?_, rfl⟩
          exact Kw.ret_int (by unfold digit; first | (rw [if_pos (by omega)]; omega) | (rw [if_neg (by omega), if_pos (by omega)]; omega) | rw [if_neg (by omega), if_neg (by omega)])
      ·
        refine Kw.WL_v rfl rfl rfl (Kw.R_geq (z := false) rfl rfl (decide_eq_false c10)) ?_
        refine Kw.WL_v rfl rfl rfl (Kw.R_move rfl) ?_
        refine Kw.WL_off rfl rfl rfl ?_
        refine Kw.WL_off rfl rfl rfl ?_
        refine Kw.WL_v rfl rfl rfl (Kw.R_pickf rfl rfl) ?_
        refine Kw.WL_nil ?_
        refine hK9 _ _ ?_; clear hK9 K9
        refine Kw.WC_sub (l' := [(0, .int .u8 c), (17, .bool false)]) (Kw.Sub.cons rfl (Kw.Sub.cons rfl Kw.Sub.nil)) ?_
        refine Kw.WC_false rfl ?_
        refine Kw.WC_skip ?_
        refine hK8 _ _ ?_; clear hK8 K8
        refine Kw.WC_seq (fun K16 hK16 => ?_)
        refine Kw.WC_region [some 2] rfl ?_
        refine Kw.WL_v rfl rfl rfl (Kw.R_assign rfl) ?_
        refine Kw.WL_nil ?_
        refine hK16 _ _ ?_; clear hK16 K16
        refine Kw.WC_ret ?_
        refine Kw.post_ret1 (v := .int .i64 (-1)) rfl rfl ⟨?_, rfl⟩
        exact Kw.ret_int (by unfold digit; first | (rw [if_pos (by omega)]; omega) | (rw [if_neg (by omega), if_pos (by omega)]; omega) | rw [if_neg (by omega), if_neg (by omega)])
  ·
    refine Kw.WL_v rfl rfl rfl (Kw.R_geq (z := false) rfl rfl (decide_eq_false c4)) ?_
    refine Kw.WL_v rfl rfl rfl (Kw.R_move rfl) ?_
    refine Kw.WL_off rfl rfl rfl ?_
    refine Kw.WL_off rfl rfl rfl ?_
    refine Kw.WL_v rfl rfl rfl (Kw.R_pickf rfl rfl) ?_
    refine Kw.WL_nil ?_
    refine hK3 _ _ ?_; clear hK3 K3
    refine Kw.WC_sub (l' := [(0, .int .u8 c), (8, .bool false)]) (Kw.Sub.cons rfl (Kw.Sub.cons rfl Kw.Sub.nil)) ?_
    refine Kw.WC_false rfl ?_
    refine Kw.WC_skip ?_
    refine hK2 _ _ ?_; clear hK2 K2
    refine Kw.WC_seq (fun K17 hK17 => ?_)
    refine Kw.WC_seq (fun K18 hK18 => ?_)
    refine Kw.WC_region [some 12, some 13, some 14, some 15, some 16, some 17] rfl ?_
    refine Kw.WL_v rfl rfl rfl (Kw.R_move rfl) ?_
    by_cases c19 : (97 : Int) ≤ c
    ·
      refine Kw.WL_v rfl rfl rfl (Kw.R_geq (z := true) rfl rfl (decide_eq_true c19)) ?_
      refine Kw.WL_v rfl rfl rfl (Kw.R_move rfl) ?_
      refine Kw.WL_v rfl rfl rfl (Kw.R_move rfl) ?_
      by_cases c20 : (c : Int) ≤ 102
      ·
        refine Kw.WL_v rfl rfl rfl (Kw.R_leq (z := true) rfl rfl (decide_eq_true c20)) ?_
        refine Kw.WL_v rfl rfl rfl (Kw.R_pickt rfl rfl) ?_
        refine Kw.WL_nil ?_
        refine hK18 _ _ ?_; clear hK18 K18
        refine Kw.WC_sub (l' := [(0, .int .u8 c), (17, .bool true)]) (Kw.Sub.cons rfl (Kw.Sub.cons rfl Kw.Sub.nil)) ?_
        refine Kw.WC_true rfl ?_
        refine Kw.WC_seq (fun K21 hK21 => ?_)
        refine Kw.WC_region [some 18, some 19, some 20, some 21, some 2] rfl ?_
        refine Kw.WL_v rfl rfl rfl (Kw.R_move rfl) ?_
        obtain ⟨x22, hx22⟩ : ∃ x : Int, x = (c - 97) % 256 := ⟨_, rfl⟩
        refine Kw.WL_v rfl rfl rfl (Kw.R_sub (c := x22) rfl rfl (by rw [Kw.wrap_u8]; rw [hx22])) ?_
        refine Kw.WL_v rfl rfl rfl (Kw.R_conv (c := x22) Tryd.underlying5 Tryd.underlying3 rfl (Kw.wrap_i64 (by omega))) ?_
        obtain ⟨x23, hx23⟩ : ∃ x : Int, x = x22 + 10 := ⟨_, rfl⟩
        refine Kw.WL_v rfl rfl rfl (Kw.R_add (c := x23) rfl rfl (by rw [Kw.wrap_i64 (by omega)]; rw [hx23])) ?_
        refine Kw.WL_v rfl rfl rfl (Kw.R_assign rfl) ?_
        refine Kw.WL_nil ?_
        refine hK21 _ _ ?_; clear hK21 K21
        refine Kw.WC_sub (l' := [(2, .int .i64 x23)]) (Kw.Sub.cons rfl Kw.Sub.nil) ?_
        refine Kw.WC_ret ?_
        refine Kw.QR_then ?_; clear hK17 K17
        refine Kw.post_ret1 (v := .int .i64 x23) rfl rfl ⟨?_, rfl⟩
        exact Kw.ret_int (by unfold digit; first | (rw [if_pos (by omega)]; omega) | (rw [if_neg (by omega), if_pos (by omega)]; omega) | rw [if_neg (by omega), if_neg (by omega)])
      ·
        refine Kw.WL_v rfl rfl rfl (Kw.R_leq (z := false) rfl rfl (decide_eq_false c20)) ?_
        refine Kw.WL_v rfl rfl rfl (Kw.R_pickt rfl rfl) ?_
        refine Kw.WL_nil ?_
        refine hK18 _ _ ?_; clear hK18 K18
        refine Kw.WC_sub (l' := [(0, .int .u8 c), (17, .bool false)]) (Kw.Sub.cons rfl (Kw.Sub.cons rfl Kw.Sub.nil)) ?_
        refine Kw.WC_false rfl ?_
        refine Kw.WC_skip ?_
        refine hK17 _ _ ?_; clear hK17 K17
        refine Kw.WC_seq (fun K24 hK24 => ?_)
        refine Kw.WC_region [some 2] rfl ?_
        refine Kw.WL_v rfl rfl rfl (Kw.R_assign rfl) ?_
        refine Kw.WL_nil ?_
        refine hK24 _ _ ?_; clear hK24 K24
        refine Kw.WC_ret ?_
        refine Kw.post_ret1 (v := .int .i64 (-1)) rfl rfl ⟨?_, rfl⟩
        exact Kw.ret_int (by unfold digit; first | (rw [if_pos (by omega)]; omega) | (rw [if_neg (by omega), if_pos (by omega)]; omega) | rw [if_neg (by omega), if_neg (by omega)])
    ·
      refine Kw.WL_v rfl rfl rfl (Kw.R_geq (z := false) rfl rfl (decide_eq_false c19)) ?_
      refine Kw.WL_v rfl rfl rfl (Kw.R_move rfl) ?_
      refine Kw.WL_off rfl rfl rfl ?_
      refine Kw.WL_off rfl rfl rfl ?_
      refine Kw.WL_v rfl rfl rfl (Kw.R_pickf rfl rfl) ?_
      refine Kw.WL_nil ?_
      refine hK18 _ _ ?_; clear hK18 K18
      refine Kw.WC_sub (l' := [(0, .int .u8 c), (17, .bool false)]) (Kw.Sub.cons rfl (Kw.Sub.cons rfl Kw.Sub.nil)) ?_
      refine Kw.WC_false rfl ?_
      refine Kw.WC_skip ?_
      refine hK17 _ _ ?_; clear hK17 K17
      refine Kw.WC_seq (fun K25 hK25 => ?_)
      refine Kw.WC_region [some 2] rfl ?_
      refine Kw.WL_v rfl rfl rfl (Kw.R_assign rfl) ?_
      refine Kw.WL_nil ?_
      refine hK25 _ _ ?_; clear hK25 K25
      refine Kw.WC_ret ?_
      refine Kw.post_ret1 (v := .int .i64 (-1)) rfl rfl ⟨?_, rfl⟩
      exact Kw.ret_int (by unfold digit; first | (rw [if_pos (by omega)]; omega) | (rw [if_neg (by omega), if_pos (by omega)]; omega) | rw [if_neg (by omega), if_neg (by omega)])
theorem byt_bt (s : ByteArray) (i : Nat) : Kw.byt s i = bt s (i : Int) := by unfold Kw.byt bt; rfl
theorem Z24_eq : F.Z24 = cells8 zeros32 := by kernel_rfl
theorem or_pair : ∀ a : Nat, a < 16 → ∀ b : Nat, b < 16 → bits .or .u8 ((bits .or .u8 0 (a : Int)) * 16 % 256) (b : Int) = 16 * (a : Int) + b := by decide +kernel
theorem or_pair' (a b : Int) (ha : 0 ≤ a ∧ a ≤ 15) (hb : 0 ≤ b ∧ b ≤ 15) : bits .or .u8 ((bits .or .u8 0 a) * 16 % 256) b = 16 * a + b := by
  have := or_pair a.toNat (by omega) b.toNat (by omega)
  rwa [Int.toNat_of_nonneg ha.1, Int.toNat_of_nonneg hb.1] at this
theorem parseL_late (s : ByteArray) (k i : Nat) (h : k ≤ 2 * i) (hi : i < 32) : (parseL s k).getD i 0 = 0 := by
  induction k with
  | zero =>
    unfold parseL zeros32
    rw [List.getD_eq_getElem?_getD, List.getElem?_replicate, if_pos hi]; rfl
  | succ k ih =>
    rw [parseL, List.getD_eq_getElem?_getD, List.getElem?_set_ne (by omega), ← List.getD_eq_getElem?_getD]
    exact ih (by omega)
theorem parseL_pair (s : ByteArray) (k : Nat) (hk : k < 32) (a b : Int) (ha : digit (bt s ((2 * k : Nat) : Int)) = a) (hb : digit (bt s ((2 * k + 1 : Nat) : Int)) = b) (h0 : 0 ≤ a) (h1 : 0 ≤ b) :
    parseL s (2 * (k + 1)) = (parseL s (2 * k)).set k (16 * a + b) := by
  have ra := digit_range (bt s ((2 * k : Nat) : Int))
  have rb := digit_range (bt s ((2 * k + 1 : Nat) : Int))
  rw [show 2 * (k + 1) = (2 * k + 1) + 1 by omega, parseL, parseL, ha, hb]
  rw [show 2 * k / 2 = k by omega, show (2 * k + 1) / 2 = k by omega, parseL_late s (2 * k) k (by omega) hk]
  rw [List.set_set]
  have e : ((parseL s (2 * k)).set k (bits .or .u8 (0 * 16 % 256) a)).getD k 0 = bits .or .u8 0 a := by
    rw [List.getD_eq_getElem?_getD, List.getElem?_set_self (by rw [parseL_length]; exact hk)]; rfl
  rw [e, or_pair' a b (by omega) (by omega)]
theorem digs_snoc (s : ByteArray) (k : Nat) (a b : Int) (H : ∀ i : Nat, i < 2 * k → 0 ≤ digit (bt s (i : Int))) (ha : digit (bt s ((2 * k : Nat) : Int)) = a) (hb : digit (bt s ((2 * k + 1 : Nat) : Int)) = b) (h0 : 0 ≤ a) (h1 : 0 ≤ b) :
    ∀ i : Nat, i < 2 * (k + 1) → 0 ≤ digit (bt s (i : Int)) := fun i hi => by
  rcases Nat.lt_or_ge i (2 * k) with h | h
  · exact H i h
  · rcases Nat.lt_or_ge i (2 * k + 1) with h' | h'
    · obtain rfl : i = 2 * k := by omega
      omega
    · obtain rfl : i = 2 * k + 1 := by omega
      omega

set_option maxRecDepth 100000 in
set_option maxHeartbeats 4000000 in
theorem refParse_c (s : ByteArray) (hs : s.size ≤ 140737488355328) (w : World) : Calls Tryd.prog 14 #[.string s] w fun e w' => e = .returned (.tuple #[.agg (cells8 ((parseV s).getD zeros32)), .bool (parseV s).isSome]) ∧ Below w.heap.size w w' := by
  have HB : Below w.heap.size w w := Below.refl _ _
  refine Kw.enter Tryd.func14 rfl Tryd.ntmps14 rfl rfl ?_
  refine Kw.WC_seq (fun K1 hK1 => ?_)
  refine Kw.WC_region [some 2, some 3] rfl ?_
  refine Kw.WL_alloc rfl rfl F.zr24 ?_; intro g2 w2 N_g2
  have A_g2 : Kw.At w2 g2 F.Z24 24 := N_g2.at_
  have G_g2 := N_g2.ge HB (Nat.le_refl _); replace HB := N_g2.below HB (Nat.le_refl _); clear N_g2
  refine Kw.WL_v rfl rfl rfl (Kw.R_assign rfl) ?_
  refine Kw.WL_nil ?_
  refine hK1 _ _ ?_; clear hK1 K1
  refine Kw.WC_seq (fun K3 hK3 => ?_)
  refine Kw.WC_region [some 4] rfl ?_
  refine Kw.WL_alloc rfl rfl F.zr24 ?_; intro g4 w4 N_g4
  have L_g2_g4 := N_g4.ne A_g2; replace A_g2 := N_g4.keep A_g2
  have A_g4 : Kw.At w4 g4 F.Z24 24 := N_g4.at_
  have G_g4 := N_g4.ge HB (Nat.le_refl _); replace HB := N_g4.below HB (Nat.le_refl _); clear N_g4
  refine Kw.WL_nil ?_
  refine hK3 _ _ ?_; clear hK3 K3
  refine Kw.WC_seq (fun K5 hK5 => ?_)
  refine Kw.WC_seq (fun K6 hK6 => ?_)
  refine Kw.WC_region [some 8, some 9, some 10] rfl ?_
  refine Kw.WL_v rfl rfl rfl (Kw.R_move rfl) ?_
  refine Kw.WL_v rfl rfl rfl (Kw.R_lens Tryd.underlying9 rfl) ?_
  by_cases c7 : ((s.size : Int) : Int) = 64
  ·
    refine Kw.WL_v rfl rfl rfl (Kw.R_nei (z := false) rfl rfl (decide_eq_true c7)) ?_
    refine Kw.WL_nil ?_
    refine hK6 _ _ ?_; clear hK6 K6
    refine Kw.WC_false rfl ?_
    refine Kw.WC_skip ?_
    refine hK5 _ _ ?_; clear hK5 K5
    refine Kw.WC_seq (fun K8 hK8 => ?_)
    refine Kw.WC_seq (fun K9 hK9 => ?_)
    refine Kw.WC_region [some 5] rfl ?_
    refine Kw.WL_v rfl rfl rfl (Kw.R_assign rfl) ?_
    refine Kw.WL_nil ?_
    refine hK9 _ _ ?_; clear hK9 K9
    refine Kw.WC_block ?_
    replace A_g4 : Kw.At w4 g4 (cells8 (parseL s (2 * 0))) 24 := by rw [show parseL s (2 * 0) = zeros32 from rfl, ← Z24_eq]; exact A_g4
    refine Kw.WC_loop (ι := Nat) (fun (k : Nat) (ww : World) => (k ≤ 32 ∧ ∀ i : Nat, i < 2 * k → 0 ≤ digit (bt s (i : Int))) ∧ Kw.At ww g2 F.Z24 24 ∧ Kw.At ww g4 (cells8 (parseL s (2 * k))) 24 ∧ Below w.heap.size w ww) (fun (k : Nat) => [(0, .string s), (2, .pointer (some ⟨g2, 0, none⟩)), (4, .pointer (some ⟨g4, 0, none⟩)), (5, .int .i64 (k : Int))]) (fun (k : Nat) => 32 - k) 0 ⟨⟨by omega, fun i h => by omega⟩, A_g2, A_g4, HB⟩ (Kw.Sub.cons rfl (Kw.Sub.cons rfl (Kw.Sub.cons rfl (Kw.Sub.cons rfl Kw.Sub.nil)))) ?_
    clear A_g2
    clear A_g4
    clear HB
    rintro k w10 ⟨⟨hk, HD⟩, A_g2, A_g4, HB⟩
    refine Kw.WC_seq (fun K11 hK11 => ?_)
    refine Kw.WC_seq (fun K12 hK12 => ?_)
    refine Kw.WC_region [some 12, some 13] rfl ?_
    refine Kw.WL_v rfl rfl rfl (Kw.R_move rfl) ?_
    by_cases c13 : ((k : Int) : Int) < 32
    ·
      refine Kw.WL_v rfl rfl rfl (Kw.R_lss (z := true) rfl rfl (decide_eq_true c13)) ?_
      refine Kw.WL_nil ?_
      refine hK12 _ _ ?_; clear hK12 K12
      refine Kw.WC_true rfl ?_
      refine Kw.WC_skip ?_
      refine hK11 _ _ ?_; clear hK11 K11
      refine Kw.WC_seq (fun K14 hK14 => ?_)
      refine Kw.WC_block ?_
      refine Kw.WC_seq (fun K15 hK15 => ?_)
      refine Kw.WC_still 12 [some 16, some 17, some 18, some 19, some 20, some 21, some 22, some 23, some 24, some 25, some 26, some 6, some 7] rfl (by kernel_rfl) (by kernel_rfl) ?_
      simp only [List.take_succ_cons, List.take_zero, List.drop_succ_cons, List.drop_zero]
      obtain ⟨w16, hww16⟩ : ∃ x : World, x = Go.World.drew w10 := ⟨_, rfl⟩
      rw [← hww16]
      replace A_g2 : Kw.At w16 g2 F.Z24 24 := by rw [hww16]; exact A_g2
      replace A_g4 : Kw.At w16 g4 (cells8 (parseL s (2 * k))) 24 := by rw [hww16]; exact A_g4
      replace HB : Below w.heap.size w w16 := by rw [hww16]; exact HB.drew
      clear hww16
      refine Kw.WS_v rfl rfl rfl (Kw.R_move rfl) ?_
      refine Kw.WS_v rfl rfl rfl (Kw.R_move rfl) ?_
      obtain ⟨j18, hj18⟩ : ∃ x : Nat, (x : Int) = 2 * (k : Int) := ⟨(2 * (k : Int)).toNat, by omega⟩
      refine Kw.WS_v rfl rfl rfl (Kw.R_mul (c := (j18 : Int)) rfl rfl (by rw [Kw.wrap_i64 (by omega)]; rw [hj18])) ?_
      obtain ⟨b19, hb19⟩ : ∃ x : Int, Kw.byt s j18 = x := ⟨_, rfl⟩
      have rb19 : 0 ≤ b19 ∧ b19 ≤ 255 := by rw [← hb19]; exact Kw.byt_range _ _
      refine Kw.WS_v rfl rfl rfl (Kw.R_indexb (i := j18) Tryd.underlying9 rfl rfl (by omega) hb19) ?_
      refine Kw.WS_call rfl rfl rfl rfl F.cl30 rfl (value_c b19 rb19 _) ?_
      have rd19 := digit_range b19
      refine Kw.WS_v rfl rfl rfl (Kw.R_move rfl) ?_
      refine Kw.WS_v rfl rfl rfl (Kw.R_move rfl) ?_
      obtain ⟨j23, hj23⟩ : ∃ x : Nat, (x : Int) = 2 * (k : Int) := ⟨(2 * (k : Int)).toNat, by omega⟩
      refine Kw.WS_v rfl rfl rfl (Kw.R_mul (c := (j23 : Int)) rfl rfl (by rw [Kw.wrap_i64 (by omega)]; rw [hj23])) ?_
      obtain ⟨j24, hj24⟩ : ∃ x : Nat, (x : Int) = (j23 : Int) + 1 := ⟨((j23 : Int) + 1).toNat, by omega⟩
      refine Kw.WS_v rfl rfl rfl (Kw.R_add (c := (j24 : Int)) rfl rfl (by rw [Kw.wrap_i64 (by omega)]; rw [hj24])) ?_
      obtain ⟨b25, hb25⟩ : ∃ x : Int, Kw.byt s j24 = x := ⟨_, rfl⟩
      have rb25 : 0 ≤ b25 ∧ b25 ≤ 255 := by rw [← hb25]; exact Kw.byt_range _ _
      refine Kw.WS_v rfl rfl rfl (Kw.R_indexb (i := j24) Tryd.underlying9 rfl rfl (by omega) hb25) ?_
      refine Kw.WS_call rfl rfl rfl rfl F.cl30 rfl (value_c b25 rb25 _) ?_
      have rd25 := digit_range b25
      refine Kw.WS_v rfl rfl rfl (Kw.R_assign rfl) ?_
      refine Kw.WS_nil ?_
      refine Kw.WL_v rfl rfl rfl (Kw.R_assign rfl) ?_
      refine Kw.WL_nil ?_
      refine hK15 _ _ ?_; clear hK15 K15
      refine Kw.WC_sub (l' := [(0, .string s), (2, .pointer (some ⟨g2, 0, none⟩)), (4, .pointer (some ⟨g4, 0, none⟩)), (5, .int .i64 (k : Int)), (6, .int .i64 (digit b19)), (7, .int .i64 (digit b25))]) (Kw.Sub.cons rfl (Kw.Sub.cons rfl (Kw.Sub.cons rfl (Kw.Sub.cons rfl (Kw.Sub.cons rfl (Kw.Sub.cons rfl Kw.Sub.nil)))))) ?_
      refine Kw.WC_seq (fun K17 hK17 => ?_)
      refine Kw.WC_seq (fun K18 hK18 => ?_)
      refine Kw.WC_region [some 27, some 28, some 29, some 30, some 31, some 32] rfl ?_
      refine Kw.WL_v rfl rfl rfl (Kw.R_move rfl) ?_
      by_cases c19 : ((digit b19) : Int) < 0
      ·
        refine Kw.WL_v rfl rfl rfl (Kw.R_lss (z := true) rfl rfl (decide_eq_true c19)) ?_
        refine Kw.WL_v rfl rfl rfl (Kw.R_move rfl) ?_
        refine Kw.WL_off rfl rfl rfl ?_
        refine Kw.WL_off rfl rfl rfl ?_
        refine Kw.WL_v rfl rfl rfl (Kw.R_pickt rfl rfl) ?_
        refine Kw.WL_nil ?_
        refine hK18 _ _ ?_; clear hK18 K18
        refine Kw.WC_true rfl ?_
        refine Kw.WC_seq (fun K20 hK20 => ?_)
        refine Kw.WC_region [some 33, none, some 3] rfl ?_
        refine Kw.WL_v rfl rfl rfl (F.R_bz24) ?_
        refine Kw.WL_storeW rfl rfl rfl (by exact F.sz24) A_g2 rfl (by kernel_rfl) ?_; intro w21 M_g2
        replace A_g4 := M_g2.keep A_g4 (Nat.ne_of_gt L_g2_g4)
        replace A_g2 : Kw.At w21 g2 F.Z24 24 := M_g2.at_ A_g2
        replace HB := M_g2.below HB G_g2; clear M_g2
        refine Kw.WL_v rfl rfl rfl (Kw.R_assign rfl) ?_
        refine Kw.WL_nil ?_
        refine hK20 _ _ ?_; clear hK20 K20
        refine Kw.WC_sub (l' := [(2, .pointer (some ⟨g2, 0, none⟩)), (3, .bool false)]) (Kw.Sub.cons rfl (Kw.Sub.cons rfl Kw.Sub.nil)) ?_
        refine Kw.WC_ret ?_
        refine Kw.QR_then ?_; clear hK17 K17
        refine Kw.QR_block ?_
        refine Kw.QR_then ?_; clear hK14 K14
        refine Kw.QR_then ?_
        refine Kw.QR_block ?_
        refine Kw.QR_then ?_; clear hK8 K8
        have hN : parseV s = none := by
          first
          | exact parse_none1 s (by omega)
          | exact parse_none2 s (2 * k) (by omega) (by rw [← byt_bt, show 2 * k = j18 by omega, hb19]; assumption)
          | exact parse_none2 s (2 * k + 1) (by omega) (by rw [← byt_bt, show 2 * k + 1 = j24 by omega, hb25]; assumption)
        refine Kw.post_ret2 rfl (Kw.RV_row rfl Tryd.underlying24 rfl (by exact F.sz24) A_g2) rfl ⟨?_, HB⟩
        rw [hN, Z24_eq, Option.getD_none, Option.isSome_none]
      ·
        refine Kw.WL_v rfl rfl rfl (Kw.R_lss (z := false) rfl rfl (decide_eq_false c19)) ?_
        refine Kw.WL_v rfl rfl rfl (Kw.R_move rfl) ?_
        refine Kw.WL_v rfl rfl rfl (Kw.R_move rfl) ?_
        by_cases c22 : ((digit b25) : Int) < 0
        ·
          refine Kw.WL_v rfl rfl rfl (Kw.R_lss (z := true) rfl rfl (decide_eq_true c22)) ?_
          refine Kw.WL_v rfl rfl rfl (Kw.R_pickf rfl rfl) ?_
          refine Kw.WL_nil ?_
          refine hK18 _ _ ?_; clear hK18 K18
          refine Kw.WC_true rfl ?_
          refine Kw.WC_seq (fun K23 hK23 => ?_)
          refine Kw.WC_region [some 33, none, some 3] rfl ?_
          refine Kw.WL_v rfl rfl rfl (F.R_bz24) ?_
          refine Kw.WL_storeW rfl rfl rfl (by exact F.sz24) A_g2 rfl (by kernel_rfl) ?_; intro w24 M_g2
          replace A_g4 := M_g2.keep A_g4 (Nat.ne_of_gt L_g2_g4)
          replace A_g2 : Kw.At w24 g2 F.Z24 24 := M_g2.at_ A_g2
          replace HB := M_g2.below HB G_g2; clear M_g2
          refine Kw.WL_v rfl rfl rfl (Kw.R_assign rfl) ?_
          refine Kw.WL_nil ?_
          refine hK23 _ _ ?_; clear hK23 K23
          refine Kw.WC_sub (l' := [(2, .pointer (some ⟨g2, 0, none⟩)), (3, .bool false)]) (Kw.Sub.cons rfl (Kw.Sub.cons rfl Kw.Sub.nil)) ?_
          refine Kw.WC_ret ?_
          refine Kw.QR_then ?_; clear hK17 K17
          refine Kw.QR_block ?_
          refine Kw.QR_then ?_; clear hK14 K14
          refine Kw.QR_then ?_
          refine Kw.QR_block ?_
          refine Kw.QR_then ?_; clear hK8 K8
          have hN : parseV s = none := by
            first
            | exact parse_none1 s (by omega)
            | exact parse_none2 s (2 * k) (by omega) (by rw [← byt_bt, show 2 * k = j18 by omega, hb19]; assumption)
            | exact parse_none2 s (2 * k + 1) (by omega) (by rw [← byt_bt, show 2 * k + 1 = j24 by omega, hb25]; assumption)
          refine Kw.post_ret2 rfl (Kw.RV_row rfl Tryd.underlying24 rfl (by exact F.sz24) A_g2) rfl ⟨?_, HB⟩
          rw [hN, Z24_eq, Option.getD_none, Option.isSome_none]
        ·
          refine Kw.WL_v rfl rfl rfl (Kw.R_lss (z := false) rfl rfl (decide_eq_false c22)) ?_
          refine Kw.WL_v rfl rfl rfl (Kw.R_pickf rfl rfl) ?_
          refine Kw.WL_nil ?_
          refine hK18 _ _ ?_; clear hK18 K18
          refine Kw.WC_false rfl ?_
          refine Kw.WC_skip ?_
          refine hK17 _ _ ?_; clear hK17 K17
          refine Kw.WC_region [some 34, some 35, some 36, some 37, some 38, some 39, some 40, none] rfl ?_
          refine Kw.WL_v rfl rfl rfl (Kw.R_move rfl) ?_
          refine Kw.WL_v rfl rfl rfl (Kw.R_move rfl) ?_
          obtain ⟨x36, hx36⟩ : ∃ x : Int, x = 16 * (digit b19) := ⟨_, rfl⟩
          refine Kw.WL_v rfl rfl rfl (Kw.R_mul (c := x36) rfl rfl (by rw [Kw.wrap_i64 (by omega)]; rw [hx36])) ?_
          refine Kw.WL_v rfl rfl rfl (Kw.R_move rfl) ?_
          obtain ⟨x38, hx38⟩ : ∃ x : Int, x = x36 + (digit b25) := ⟨_, rfl⟩
          refine Kw.WL_v rfl rfl rfl (Kw.R_add (c := x38) rfl rfl (by rw [Kw.wrap_i64 (by omega)]; rw [hx38])) ?_
          refine Kw.WL_v rfl rfl rfl (Kw.R_conv (c := x38) Tryd.underlying3 Tryd.underlying5 rfl (by rw [Kw.wrap_u8]; omega)) ?_
          refine Kw.WL_v rfl rfl rfl (Kw.R_indexAddrA (i := k) (o' := k) rfl rfl Tryd.underlying24 F.sz5 (by omega) (by omega)) ?_
          refine Kw.WL_store1 (ds := cells8 ((parseL s (2 * k)).set k x38)) rfl rfl rfl F.sz5 A_g4 (by rw [cells8_size, parseL_length]; omega) rfl rfl (cells8_set _ _ _) ?_; intro w25 M_g4
          replace A_g2 := M_g4.keep A_g2 (Nat.ne_of_lt L_g2_g4)
          replace A_g4 : Kw.At w25 g4 (cells8 ((parseL s (2 * k)).set k x38)) 24 := M_g4.at_ A_g4
          replace HB := M_g4.below HB G_g4; clear M_g4
          refine Kw.WL_nil ?_
          refine Kw.QN_block ?_
          refine hK14 _ _ ?_; clear hK14 K14
          refine Kw.WC_sub (l' := [(0, .string s), (2, .pointer (some ⟨g2, 0, none⟩)), (4, .pointer (some ⟨g4, 0, none⟩)), (5, .int .i64 (k : Int)), (30, .int .i64 (digit b25)), (31, .bool false)]) (Kw.Sub.cons rfl (Kw.Sub.cons rfl (Kw.Sub.cons rfl (Kw.Sub.cons rfl (Kw.Sub.cons rfl (Kw.Sub.cons rfl Kw.Sub.nil)))))) ?_
          refine Kw.WC_region [some 14, some 15, some 5] rfl ?_
          refine Kw.WL_v rfl rfl rfl (Kw.R_move rfl) ?_
          refine Kw.WL_v rfl rfl rfl (Kw.R_add (c := ((k + 1 : Nat) : Int)) rfl rfl (by rw [Kw.wrap_i64 (by omega)]; omega)) ?_
          refine Kw.WL_v rfl rfl rfl (Kw.R_assign rfl) ?_
          refine Kw.WL_nil ?_
          have ea : digit (bt s ((2 * k : Nat) : Int)) = digit b19 := by rw [← byt_bt, show 2 * k = j18 by omega, hb19]
          have eb : digit (bt s ((2 * k + 1 : Nat) : Int)) = digit b25 := by rw [← byt_bt, show 2 * k + 1 = j24 by omega, hb25]
          have ep := parseL_pair s k (by omega) _ _ ea eb (by omega) (by omega)
          rw [hx38, hx36, ← ep] at A_g4
          refine Kw.QN_round (k + 1) ⟨⟨by omega, digs_snoc s k _ _ HD ea eb (by omega) (by omega)⟩, A_g2, A_g4, HB⟩ (by omega) (Kw.Sub.cons rfl (Kw.Sub.cons rfl (Kw.Sub.cons rfl (Kw.Sub.cons rfl Kw.Sub.nil))))
    ·
      refine Kw.WL_v rfl rfl rfl (Kw.R_lss (z := false) rfl rfl (decide_eq_false c13)) ?_
      refine Kw.WL_nil ?_
      refine hK12 _ _ ?_; clear hK12 K12
      refine Kw.WC_false rfl ?_
      refine Kw.WC_exit ?_
      refine Kw.QE_then ?_; clear hK11 K11
      refine Kw.QE_then ?_
      refine Kw.QE_here ?_
      refine hK8 _ _ ?_; clear hK8 K8
      refine Kw.WC_seq (fun K26 hK26 => ?_)
      refine Kw.WC_region [some 41, none, some 3] rfl ?_
      refine Kw.WL_v rfl rfl rfl (Kw.R_loadW rfl Tryd.underlying24 rfl (by rw [cells8_size, parseL_length]; exact F.sz24) A_g4) ?_
      refine Kw.WL_storeW rfl rfl rfl (by rw [cells8_size, parseL_length]; exact F.sz24) A_g2 (by rw [cells8_size, parseL_length]; rfl) (by simpa using cells8_one _) ?_; intro w27 M_g2
      replace A_g4 := M_g2.keep A_g4 (Nat.ne_of_gt L_g2_g4)
      replace A_g2 : Kw.At w27 g2 (cells8 (parseL s (2 * k))) 24 := M_g2.at_ A_g2
      replace HB := M_g2.below HB G_g2; clear M_g2
      refine Kw.WL_v rfl rfl rfl (Kw.R_assign rfl) ?_
      refine Kw.WL_nil ?_
      refine hK26 _ _ ?_; clear hK26 K26
      refine Kw.WC_sub (l' := [(2, .pointer (some ⟨g2, 0, none⟩)), (3, .bool true)]) (Kw.Sub.cons rfl (Kw.Sub.cons rfl Kw.Sub.nil)) ?_
      refine Kw.WC_ret ?_
      obtain rfl : k = 32 := by omega
      rw [show (2 * 32 : Nat) = 64 from rfl] at A_g2 HD
      have hS := parse_some s (by omega) HD
      refine Kw.post_ret2 rfl (Kw.RV_row rfl Tryd.underlying24 rfl (by rw [cells8_size, parseL_length]; exact F.sz24) A_g2) rfl ⟨?_, HB⟩
      rw [hS, Option.getD_some, Option.isSome_some]
  ·
    refine Kw.WL_v rfl rfl rfl (Kw.R_nei (z := true) rfl rfl (decide_eq_false c7)) ?_
    refine Kw.WL_nil ?_
    refine hK6 _ _ ?_; clear hK6 K6
    refine Kw.WC_true rfl ?_
    refine Kw.WC_seq (fun K28 hK28 => ?_)
    refine Kw.WC_region [some 11, none, some 3] rfl ?_
    refine Kw.WL_v rfl rfl rfl (Kw.R_loadW rfl Tryd.underlying24 rfl (by exact F.sz24) A_g4) ?_
    refine Kw.WL_storeW rfl rfl rfl (by exact F.sz24) A_g2 rfl (by kernel_rfl) ?_; intro w29 M_g2
    replace A_g4 := M_g2.keep A_g4 (Nat.ne_of_gt L_g2_g4)
    replace A_g2 : Kw.At w29 g2 F.Z24 24 := M_g2.at_ A_g2
    replace HB := M_g2.below HB G_g2; clear M_g2
    refine Kw.WL_v rfl rfl rfl (Kw.R_assign rfl) ?_
    refine Kw.WL_nil ?_
    refine hK28 _ _ ?_; clear hK28 K28
    refine Kw.WC_sub (l' := [(2, .pointer (some ⟨g2, 0, none⟩)), (3, .bool false)]) (Kw.Sub.cons rfl (Kw.Sub.cons rfl Kw.Sub.nil)) ?_
    refine Kw.WC_ret ?_
    refine Kw.QR_then ?_; clear hK5 K5
    have hN : parseV s = none := by
      first
      | exact parse_none1 s (by omega)
      | exact parse_none2 s (2 * k) (by omega) (by rw [← byt_bt, show 2 * k = j18 by omega, hb19]; assumption)
      | exact parse_none2 s (2 * k + 1) (by omega) (by rw [← byt_bt, show 2 * k + 1 = j24 by omega, hb25]; assumption)
    refine Kw.post_ret2 rfl (Kw.RV_row rfl Tryd.underlying24 rfl (by exact F.sz24) A_g2) rfl ⟨?_, HB⟩
    rw [hN, Z24_eq, Option.getD_none, Option.isSome_none]
def hx (h : List Int) (k : Nat) : ByteArray := ⟨(hexL h k).toArray⟩
theorem hx_size (h : List Int) (k : Nat) : (hx h k).size = 2 * k := by show (hexL h k).toArray.size = _; simp [hexL_length]
theorem hx_succ (h : List Int) (k : Nat) : hx h k ++ ⟨#[hexd (h.getD k 0 / 16)]⟩ ++ ⟨#[hexd (h.getD k 0 % 16)]⟩ = hx h (k + 1) := by
  apply ByteArray.ext
  apply Array.toList_inj.1
  simp only [hx, hexL, ByteArray.data_append, Array.toList_append]
theorem digs_one : ∀ q : Nat, q < 16 → (ByteArray.extract ⟨#[48, 49, 50, 51, 52, 53, 54, 55, 56, 57, 97, 98, 99, 100, 101, 102]⟩ q (q + 1)).data.toList = [hexd (q : Int)] := by decide +kernel
theorem digs_at (a : Int) (q j : Nat) (hq : (q : Int) = a) (hj : j = q + 1) (h : q < 16) : ByteArray.extract ⟨#[48, 49, 50, 51, 52, 53, 54, 55, 56, 57, 97, 98, 99, 100, 101, 102]⟩ q j = ⟨#[hexd a]⟩ := by
  subst hj; subst hq
  apply ByteArray.ext
  apply Array.toList_inj.1
  exact digs_one q h

set_option maxRecDepth 100000 in
set_option maxHeartbeats 4000000 in
theorem refHex_c (h : List Int) (hl : h.length = 32) (hn : Bytes h) (w : World) : Calls Tryd.prog 16 #[.agg (cells8 h)] w fun e w' => e = .returned (.string (hexS h)) ∧ Below w.heap.size w w' := by
  have HB : Below w.heap.size w w := Below.refl _ _
  refine Kw.enter Tryd.func16 rfl Tryd.ntmps16 rfl rfl ?_
  refine Kw.WC_seq (fun K1 hK1 => ?_)
  refine Kw.WC_region [some 1, some 2] rfl ?_
  refine Kw.WL_box rfl rfl rfl ?_; intro g1 w2 N_g1
  have A_g1 : Kw.At w2 g1 (cells8 h) 24 := N_g1.at_
  have G_g1 := N_g1.ge HB (Nat.le_refl _); replace HB := N_g1.below HB (Nat.le_refl _); clear N_g1
  refine Kw.WL_v rfl rfl rfl (Kw.R_assign rfl) ?_
  refine Kw.WL_nil ?_
  refine hK1 _ _ ?_; clear hK1 K1
  refine Kw.WC_seq (fun K3 hK3 => ?_)
  refine Kw.WC_region [some 3] rfl ?_
  refine Kw.WL_v rfl rfl rfl (Kw.R_assign rfl) ?_
  refine Kw.WL_nil ?_
  refine hK3 _ _ ?_; clear hK3 K3
  refine Kw.WC_seq (fun K4 hK4 => ?_)
  refine Kw.WC_region [some 4] rfl ?_
  refine Kw.WL_v rfl rfl rfl (Kw.R_assign rfl) ?_
  refine Kw.WL_nil ?_
  refine hK4 _ _ ?_; clear hK4 K4
  refine Kw.WC_seq (fun K5 hK5 => ?_)
  refine Kw.WC_seq (fun K6 hK6 => ?_)
  refine Kw.WC_region [some 5] rfl ?_
  refine Kw.WL_v rfl rfl rfl (Kw.R_assign rfl) ?_
  refine Kw.WL_nil ?_
  refine hK6 _ _ ?_; clear hK6 K6
  refine Kw.WC_block ?_
  refine Kw.WC_loop (ι := Nat) (fun (k : Nat) (ww : World) => (k ≤ 32) ∧ Kw.At ww g1 (cells8 h) 24 ∧ Below w.heap.size w ww) (fun (k : Nat) => [(1, .pointer (some ⟨g1, 0, none⟩)), (3, .string ⟨#[48, 49, 50, 51, 52, 53, 54, 55, 56, 57, 97, 98, 99, 100, 101, 102]⟩), (4, .string (hx h k)), (5, .int .i64 (k : Int))]) (fun (k : Nat) => 32 - k) 0 ⟨by omega, A_g1, HB⟩ (Kw.Sub.cons rfl (Kw.Sub.cons rfl (Kw.Sub.cons rfl (Kw.Sub.cons rfl Kw.Sub.nil)))) ?_
  clear A_g1
  clear HB
  rintro k w7 ⟨hk, A_g1, HB⟩
  have rk := bytes_getD h hn k
  refine Kw.WC_seq (fun K8 hK8 => ?_)
  refine Kw.WC_seq (fun K9 hK9 => ?_)
  refine Kw.WC_region [some 6, some 7] rfl ?_
  refine Kw.WL_v rfl rfl rfl (Kw.R_move rfl) ?_
  by_cases c10 : ((k : Int) : Int) < 32
  ·
    refine Kw.WL_v rfl rfl rfl (Kw.R_lss (z := true) rfl rfl (decide_eq_true c10)) ?_
    refine Kw.WL_nil ?_
    refine hK9 _ _ ?_; clear hK9 K9
    refine Kw.WC_true rfl ?_
    refine Kw.WC_skip ?_
    refine hK8 _ _ ?_; clear hK8 K8
    refine Kw.WC_seq (fun K11 hK11 => ?_)
    refine Kw.WC_block ?_
    refine Kw.WC_still 25 [some 10, some 11, some 12, some 13, some 14, some 15, some 16, some 17, some 18, some 19, some 20, some 21, some 22, some 23, some 24, some 25, some 26, some 27, some 28, some 29, some 30, some 31, some 32, some 33, some 34, some 4] rfl (by kernel_rfl) (by kernel_rfl) ?_
    simp only [List.take_succ_cons, List.take_zero, List.drop_succ_cons, List.drop_zero]
    obtain ⟨w12, hww12⟩ : ∃ x : World, x = Go.World.drew w7 := ⟨_, rfl⟩
    rw [← hww12]
    replace A_g1 : Kw.At w12 g1 (cells8 h) 24 := by rw [hww12]; exact A_g1
    replace HB : Below w.heap.size w w12 := by rw [hww12]; exact HB.drew
    clear hww12
    refine Kw.WS_v rfl rfl rfl (Kw.R_move rfl) ?_
    refine Kw.WS_v rfl rfl rfl (Kw.R_move rfl) ?_
    refine Kw.WS_v rfl rfl rfl (Kw.R_move rfl) ?_
    refine Kw.WS_v rfl rfl rfl (Kw.R_indexAddrA (i := k) (o' := k) rfl rfl Tryd.underlying24 F.sz5 (by omega) (by omega)) ?_
    refine Kw.WS_v rfl rfl rfl (Kw.R_load1 (v := .int .u8 (h.getD k 0)) rfl Tryd.underlying5 rfl A_g1 (cells8_get h k (by omega))) ?_
    obtain ⟨q15, hq15⟩ : ∃ x : Nat, (x : Int) = (h.getD k 0) / 16 := ⟨((h.getD k 0) / 16).toNat, by omega⟩
    refine Kw.WS_v rfl rfl rfl (Kw.R_quo (c := (q15 : Int)) rfl rfl (by omega) (by rw [Kw.tdiv_pos (by omega), Kw.wrap_u8, Int.emod_eq_of_lt (by omega) (by omega)]; rw [hq15])) ?_
    refine Kw.WS_v rfl rfl rfl (Kw.R_move rfl) ?_
    refine Kw.WS_v rfl rfl rfl (Kw.R_indexAddrA (i := k) (o' := k) rfl rfl Tryd.underlying24 F.sz5 (by omega) (by omega)) ?_
    refine Kw.WS_v rfl rfl rfl (Kw.R_load1 (v := .int .u8 (h.getD k 0)) rfl Tryd.underlying5 rfl A_g1 (cells8_get h k (by omega))) ?_
    obtain ⟨x19, hx19⟩ : ∃ x : Int, x = (h.getD k 0) / 16 := ⟨_, rfl⟩
    refine Kw.WS_v rfl rfl rfl (Kw.R_quo (c := x19) rfl rfl (by omega) (by rw [Kw.tdiv_pos (by omega), Kw.wrap_u8, Int.emod_eq_of_lt (by omega) (by omega)]; rw [hx19])) ?_
    obtain ⟨j20, hj20⟩ : ∃ x : Nat, (x : Int) = (x19 + 1) % 256 := ⟨((x19 + 1) % 256).toNat, by omega⟩
    refine Kw.WS_v rfl rfl rfl (Kw.R_add (c := (j20 : Int)) rfl rfl (by rw [Kw.wrap_u8]; rw [hj20])) ?_
    refine Kw.WS_v rfl rfl rfl (Kw.R_slices (i := q15) (j := j20) (r := ⟨#[hexd (h.getD k 0 / 16)]⟩) Tryd.underlying9 rfl ⟨_, rfl⟩ ⟨_, rfl⟩ (by omega) (by show _ ≤ 16; omega) (digs_at _ q15 j20 hq15 (by omega) (by omega))) ?_
    refine Kw.WS_v rfl rfl rfl (Kw.R_adds (r := hx h k ++ ⟨#[hexd (h.getD k 0 / 16)]⟩) rfl rfl (by rw [hx_size]; show 2 * k + 1 ≤ _; omega) (rfl)) ?_
    refine Kw.WS_v rfl rfl rfl (Kw.R_move rfl) ?_
    refine Kw.WS_v rfl rfl rfl (Kw.R_move rfl) ?_
    refine Kw.WS_v rfl rfl rfl (Kw.R_indexAddrA (i := k) (o' := k) rfl rfl Tryd.underlying24 F.sz5 (by omega) (by omega)) ?_
    refine Kw.WS_v rfl rfl rfl (Kw.R_load1 (v := .int .u8 (h.getD k 0)) rfl Tryd.underlying5 rfl A_g1 (cells8_get h k (by omega))) ?_
    obtain ⟨q27, hq27⟩ : ∃ x : Nat, (x : Int) = (h.getD k 0) % 16 := ⟨((h.getD k 0) % 16).toNat, by omega⟩
    refine Kw.WS_v rfl rfl rfl (Kw.R_rem (c := (q27 : Int)) rfl rfl (by omega) (by rw [Kw.tmod_pos (by omega)]; rw [hq27])) ?_
    refine Kw.WS_v rfl rfl rfl (Kw.R_move rfl) ?_
    refine Kw.WS_v rfl rfl rfl (Kw.R_indexAddrA (i := k) (o' := k) rfl rfl Tryd.underlying24 F.sz5 (by omega) (by omega)) ?_
    refine Kw.WS_v rfl rfl rfl (Kw.R_load1 (v := .int .u8 (h.getD k 0)) rfl Tryd.underlying5 rfl A_g1 (cells8_get h k (by omega))) ?_
    obtain ⟨x31, hx31⟩ : ∃ x : Int, x = (h.getD k 0) % 16 := ⟨_, rfl⟩
    refine Kw.WS_v rfl rfl rfl (Kw.R_rem (c := x31) rfl rfl (by omega) (by rw [Kw.tmod_pos (by omega)]; rw [hx31])) ?_
    obtain ⟨j32, hj32⟩ : ∃ x : Nat, (x : Int) = (x31 + 1) % 256 := ⟨((x31 + 1) % 256).toNat, by omega⟩
    refine Kw.WS_v rfl rfl rfl (Kw.R_add (c := (j32 : Int)) rfl rfl (by rw [Kw.wrap_u8]; rw [hj32])) ?_
    refine Kw.WS_v rfl rfl rfl (Kw.R_slices (i := q27) (j := j32) (r := ⟨#[hexd (h.getD k 0 % 16)]⟩) Tryd.underlying9 rfl ⟨_, rfl⟩ ⟨_, rfl⟩ (by omega) (by show _ ≤ 16; omega) (digs_at _ q27 j32 hq27 (by omega) (by omega))) ?_
    refine Kw.WS_v rfl rfl rfl (Kw.R_adds (r := hx h (k + 1)) rfl rfl (by rw [ByteArray.size_append, hx_size]; show 2 * k + 1 + 1 ≤ _; omega) (hx_succ h k)) ?_
    refine Kw.WS_nil ?_
    refine Kw.WL_v rfl rfl rfl (Kw.R_assign rfl) ?_
    refine Kw.WL_nil ?_
    refine Kw.QN_block ?_
    refine hK11 _ _ ?_; clear hK11 K11
    refine Kw.WC_sub (l' := [(1, .pointer (some ⟨g1, 0, none⟩)), (3, .string ⟨#[48, 49, 50, 51, 52, 53, 54, 55, 56, 57, 97, 98, 99, 100, 101, 102]⟩), (4, .string (hx h (k + 1))), (5, .int .i64 (k : Int))]) (Kw.Sub.cons rfl (Kw.Sub.cons rfl (Kw.Sub.cons rfl (Kw.Sub.cons rfl Kw.Sub.nil)))) ?_
    refine Kw.WC_region [some 8, some 9, some 5] rfl ?_
    refine Kw.WL_v rfl rfl rfl (Kw.R_move rfl) ?_
    refine Kw.WL_v rfl rfl rfl (Kw.R_add (c := ((k + 1 : Nat) : Int)) rfl rfl (by rw [Kw.wrap_i64 (by omega)]; omega)) ?_
    refine Kw.WL_v rfl rfl rfl (Kw.R_assign rfl) ?_
    refine Kw.WL_nil ?_
    refine Kw.QN_round (k + 1) ⟨by omega, A_g1, HB⟩ (by omega) (Kw.Sub.cons rfl (Kw.Sub.cons rfl (Kw.Sub.cons rfl (Kw.Sub.cons rfl Kw.Sub.nil))))
  ·
    refine Kw.WL_v rfl rfl rfl (Kw.R_lss (z := false) rfl rfl (decide_eq_false c10)) ?_
    refine Kw.WL_nil ?_
    refine hK9 _ _ ?_; clear hK9 K9
    refine Kw.WC_false rfl ?_
    refine Kw.WC_exit ?_
    refine Kw.QE_then ?_; clear hK8 K8
    refine Kw.QE_then ?_
    refine Kw.QE_here ?_
    refine hK5 _ _ ?_; clear hK5 K5
    refine Kw.WC_seq (fun K13 hK13 => ?_)
    refine Kw.WC_region [some 35, some 2] rfl ?_
    refine Kw.WL_v rfl rfl rfl (Kw.R_move rfl) ?_
    refine Kw.WL_v rfl rfl rfl (Kw.R_assign rfl) ?_
    refine Kw.WL_nil ?_
    refine hK13 _ _ ?_; clear hK13 K13
    refine Kw.WC_sub (l' := [(2, .string (hx h k))]) (Kw.Sub.cons rfl Kw.Sub.nil) ?_
    refine Kw.WC_ret ?_
    obtain rfl : k = 32 := by omega
    exact Kw.post_ret1 rfl rfl ⟨rfl, HB⟩
end Go.Proofs.YtngkedoaijlnlaaDoor.Fn
