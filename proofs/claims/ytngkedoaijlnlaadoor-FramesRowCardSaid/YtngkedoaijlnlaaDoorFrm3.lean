/- The reference of layer 12 as contracts. -/
import Derived.Test.YtngkedoaijlnlaaDoorFrm2
namespace Go.Proofs.YtngkedoaijlnlaaDoor.Fn
open Go Go.Proofs Go.RowKit Go.Proofs.YtngkedoaijlnlaaDoorW.PrintWords Go.Proofs.YtngkedoaijlnlaaDoorW.PrintLast Go.Proofs.YtngkedoaijlnlaaDoorW.PrintMore
set_option linter.unusedVariables false
set_option linter.unusedSimpArgs false
theorem strOfNums_cons (x : Int) (l : List Int) : (⟨#[x.toNat.toUInt8]⟩ : ByteArray) ++ strOfNums l = strOfNums (x :: l) := by
  apply ByteArray.ext
  apply Array.toList_inj.1
  rw [strOfNums_data, ByteArray.data_append, Array.toList_append, strOfNums_data]
  rfl
theorem lenB_be (n : Nat) : lenB n = strOfNums (be 4 (n : Int)) := by unfold lenB putV; rw [if_pos (by omega)]; rfl
theorem be_size (k : Nat) (n : Int) : (strOfNums (be k n)).size = k := by rw [strOfNums_size, be_length]
/-- The number of the first k bytes. -/
def gw (s : ByteArray) : Nat → Int
  | 0 => 0
  | k + 1 => gw s k * 256 + Kw.byt s k
theorem gw_range (s : ByteArray) : ∀ k, 0 ≤ gw s k ∧ gw s k < 256 ^ k
  | 0 => by simp [gw]
  | k + 1 => by
    have := gw_range s k
    have r := Kw.byt_range s k
    rw [gw, Int.pow_succ]; omega
theorem gw4 (s : ByteArray) (h : s.size = 4) : gw s 4 = getS s := by
  rw [get4 s h]
  simp only [gw, byt_bt, word]
  simp
theorem pow_le (k : Nat) (h : k ≤ 4) : (256 : Int) ^ k ≤ 4294967296 := by
  have : ∀ k : Nat, k ≤ 4 → (256 : Int) ^ k ≤ 4294967296 := by decide
  exact this k h
theorem eq_frm (q : ByteArray) (n : Nat) (h : 12 + n ≤ q.size) : frm (q.extract 12 (12 + n)) = q.extract 0 (12 + n) ↔ hd (q.extract 12 (12 + n)) = q.extract 0 12 := by
  have e : q.extract 0 (12 + n) = q.extract 0 12 ++ q.extract 12 (12 + n) := by
    apply ByteArray.ext
    rw [ByteArray.data_append, ByteArray.data_extract, ByteArray.data_extract, ByteArray.data_extract, Array.extract_append_extract]
    congr 1 <;> omega
  rw [e]
  unfold frm
  constructor
  · intro h'
    have h2 : (hd (q.extract 12 (12 + n)) ++ q.extract 12 (12 + n)).extract 0 12 = (q.extract 0 12 ++ q.extract 12 (12 + n)).extract 0 12 := congrArg (fun b => ByteArray.extract b 0 12) h'
    have l1 : ∀ (a b : ByteArray), a.size = 12 → (a ++ b).extract 0 12 = a := fun a b ha => by
      apply ByteArray.ext
      rw [ByteArray.data_extract, ByteArray.data_append]
      apply Array.toList_inj.1
      have : a.data.toList.length = 12 := by simpa using ha
      rw [Array.toList_extract, Array.toList_append, List.extract_eq_take_drop, List.drop_zero, List.take_append_of_le_length (by omega), List.take_of_length_le (by omega)]
    rw [l1 _ _ (hd_size _), l1 _ _ (by rw [ByteArray.size_extract]; omega)] at h2
    exact h2
  · intro h'; rw [h']
theorem ext_ext (s : ByteArray) (k i j : Nat) (h : i ≤ j) : (s.extract k s.size).extract i j = s.extract (k + i) (k + j) := by
  have := extract_extract s k i (j - i)
  rw [show i + (j - i) = j by omega, show k + i + (j - i) = k + j by omega] at this
  exact this
/-- A list of texts, as it is read. -/
def Strs (w : World) (v : Value) (L : List ByteArray) : Prop := ∃ a cap, v = .slice a L.length cap ∧ (L = [] ∨ ∃ g o, a = some ⟨g, o, none⟩ ∧ ∀ (i : Nat) (h : i < L.length), w.cell? ⟨g, o + i, none⟩ = some (.string L[i]))
theorem Strs.own {w : World} {B : Nat} {v : Value} {L : List ByteArray} (h : Kw.Own w B 9 1 v L.length (strsL L)) : Strs w v L := by
  rcases h.2 with ⟨rfl, hn⟩ | ⟨g, cap, cur, rfl, _, ha, _, _, _, ht⟩
  · exact ⟨none, 0, by rw [hn], .inl (List.eq_nil_of_length_eq_zero hn)⟩
  · refine ⟨_, cap, rfl, .inr ⟨g, 0, rfl, fun i hi => ?_⟩⟩
    rw [Nat.zero_add, ha.cell, Kw.Own.cellAt ht (by omega)]
    unfold strsL
    rw [List.getElem?_map, List.getElem?_eq_getElem hi]; rfl
theorem Strs.row {w : World} {g : Nat} {L : List ByteArray} {T : Nat} (h : Kw.At w g (strsL L).toArray T) : Strs w (.slice (some ⟨g, 0, none⟩) L.length L.length) L := by
  refine ⟨_, _, rfl, .inr ⟨g, 0, rfl, fun i hi => ?_⟩⟩
  rw [Nat.zero_add, h.cell]
  unfold strsL
  simp [hi]
theorem Strs.call {w w' : World} {v : Value} {L : List ByteArray} (h : Strs w v L) (hb : Below w.heap.size w w') : Strs w' v L := by
  obtain ⟨a, cap, rfl, h⟩ := h
  refine ⟨a, cap, rfl, ?_⟩
  rcases h with h | ⟨g, o, rfl, h⟩
  · exact .inl h
  · refine .inr ⟨g, o, rfl, fun i hi => ?_⟩
    have := h i hi
    rw [hb.cell (p := ⟨g, o + i, none⟩) (by
      show g < _
      rcases Nat.lt_or_ge g w.heap.size with h' | h'
      · exact h'
      · simp [World.cell?, Array.getElem?_eq_none h'] at this)]
    exact this
theorem div_step (n : Int) (k : Nat) : n / 256 ^ k / 256 = n / 256 ^ (k + 1) := by
  rw [Int.ediv_ediv_of_nonneg (Int.le_of_lt (Int.pow_pos (by decide))), Int.pow_succ]
theorem div_small (n : Nat) (k : Nat) : 0 ≤ (n : Int) / 256 ^ k ∧ (n : Int) / 256 ^ k ≤ n :=
  ⟨Int.ediv_nonneg (by omega) (Int.le_of_lt (Int.pow_pos (by decide))), Int.ediv_le_self _ (by omega)⟩

set_option maxRecDepth 100000 in
set_option maxHeartbeats 4000000 in
theorem refPutB_c (n : Nat) (hn : n ≤ 4294967295) (w : World) : Calls Tryd.prog 35 #[.int .u64 (n : Int), .int .i64 4] w fun e w' => e = .returned (.string (lenB n)) ∧ Below w.heap.size w w' := by
  have HB : Below w.heap.size w w := Below.refl _ _
  refine Kw.enter Tryd.func35 rfl Tryd.ntmps35 rfl rfl ?_
  refine Kw.WC_seq (fun K1 hK1 => ?_)
  refine Kw.WC_region [some 4] rfl ?_
  refine Kw.WL_v rfl rfl rfl (Kw.R_assign rfl) ?_
  refine Kw.WL_nil ?_
  refine hK1 _ _ ?_; clear hK1 K1
  refine Kw.WC_seq (fun K2 hK2 => ?_)
  refine Kw.WC_region [some 5] rfl ?_
  refine Kw.WL_v rfl rfl rfl (Kw.R_assign rfl) ?_
  refine Kw.WL_nil ?_
  refine hK2 _ _ ?_; clear hK2 K2
  refine Kw.WC_seq (fun K3 hK3 => ?_)
  refine Kw.WC_seq (fun K4 hK4 => ?_)
  refine Kw.WC_region [some 6] rfl ?_
  refine Kw.WL_v rfl rfl rfl (Kw.R_assign rfl) ?_
  refine Kw.WL_nil ?_
  refine hK4 _ _ ?_; clear hK4 K4
  refine Kw.WC_block ?_
  have hn0 : (n : Int) = (n : Int) / 256 ^ 0 := by simp
  refine Kw.WC_loop (ι := Nat) (fun (k : Nat) (ww : World) => (k ≤ 4) ∧ Below w.heap.size w ww) (fun (k : Nat) => [(0, .int .u64 ((n : Int) / 256 ^ k)), (1, .int .i64 4), (5, .string (strOfNums (be k (n : Int)))), (6, .int .i64 (k : Int))]) (fun (k : Nat) => 4 - k) 0 ⟨by omega, HB⟩ (by show Kw.Sub [(0, .int .u64 ((n : Int) / 256 ^ 0)), _, _, _] _; rw [← hn0]; exact (Kw.Sub.cons rfl (Kw.Sub.cons rfl (Kw.Sub.cons rfl (Kw.Sub.cons rfl Kw.Sub.nil))))) ?_
  clear HB
  rintro k w5 ⟨hk, HB⟩
  refine Kw.WC_seq (fun K6 hK6 => ?_)
  refine Kw.WC_seq (fun K7 hK7 => ?_)
  refine Kw.WC_region [some 7, some 8, some 9, some 10, some 11, some 12, some 13] rfl ?_
  refine Kw.WL_v rfl rfl rfl (Kw.R_move rfl) ?_
  refine Kw.WL_v rfl rfl rfl (Kw.R_move rfl) ?_
  by_cases c8 : ((k : Int) : Int) < 4
  ·
    refine Kw.WL_v rfl rfl rfl (Kw.R_lss (z := true) rfl rfl (decide_eq_true c8)) ?_
    refine Kw.WL_v rfl rfl rfl (Kw.R_move rfl) ?_
    refine Kw.WL_v rfl rfl rfl (Kw.R_move rfl) ?_
    refine Kw.WL_v rfl rfl rfl (Kw.R_lss (z := true) rfl rfl (decide_eq_true (by omega))) ?_
    refine Kw.WL_v rfl rfl rfl (Kw.R_pickt rfl rfl) ?_
    refine Kw.WL_nil ?_
    refine hK7 _ _ ?_; clear hK7 K7
    refine Kw.WC_true rfl ?_
    refine Kw.WC_skip ?_
    refine hK6 _ _ ?_; clear hK6 K6
    refine Kw.WC_seq (fun K9 hK9 => ?_)
    refine Kw.WC_block ?_
    refine Kw.WC_seq (fun K10 hK10 => ?_)
    refine Kw.WC_region [some 16, some 17, some 18, some 19, some 20, some 21, some 22, some 5] rfl ?_
    refine Kw.WL_v rfl rfl rfl (Kw.R_move rfl) ?_
    refine Kw.WL_v rfl rfl rfl (Kw.R_rem (c := ((n : Int) / 256 ^ k % 256)) rfl rfl (by omega) (by rw [Kw.tmod_pos (Int.ediv_nonneg (by omega) (Int.le_of_lt (Int.pow_pos (by decide))))])) ?_
    refine Kw.WL_v rfl rfl rfl (Kw.R_conv (c := ((n : Int) / 256 ^ k % 256)) Tryd.underlying55 Tryd.underlying5 rfl (by rw [Kw.wrap_u8]; omega)) ?_
    obtain ⟨g19, w11, N_g19⟩ : ∃ b w2, Kw.Newb w5 b #[.int .u8 ((n : Int) / 256 ^ k % 256)] 5 w2 := ⟨_, _, rfl, rfl⟩
    refine Kw.WL_v rfl rfl rfl (Kw.R_buildSlice rfl (fun w => by kernel_rfl) N_g19) ?_
    have A_g19 : Kw.At w11 g19 #[.int .u8 ((n : Int) / 256 ^ k % 256)] 5 := N_g19.at_
    have G_g19 := N_g19.ge HB (Nat.le_refl _); replace HB := N_g19.below HB (Nat.le_refl _); clear N_g19
    refine Kw.WL_v rfl rfl rfl (Kw.R_convbs (bs := [((n : Int) / 256 ^ k % 256).toNat.toUInt8]) (r := ⟨#[((n : Int) / 256 ^ k % 256).toNat.toUInt8]⟩) Tryd.underlying32 Tryd.underlying5 Tryd.underlying9 rfl A_g19 (rfl) (fun j hj => by obtain rfl : j = 0 := (by have : j < 1 := hj; omega); have e := u8_back ((n : Int) / 256 ^ k % 256) (by omega); simp only [List.getElem_cons_zero]; rw [e]; rfl) (rfl)) ?_
    refine Kw.WL_v rfl rfl rfl (Kw.R_move rfl) ?_
    refine Kw.WL_v rfl rfl rfl (Kw.R_adds (r := (strOfNums (be (k + 1) (n : Int)))) rfl rfl (by rw [be_size]; show 1 + k ≤ _; omega) (by rw [be_last]; exact strOfNums_cons _ _)) ?_
    refine Kw.WL_v rfl rfl rfl (Kw.R_assign rfl) ?_
    clear A_g19
    refine Kw.WL_nil ?_
    refine hK10 _ _ ?_; clear hK10 K10
    refine Kw.WC_sub (l' := [(0, .int .u64 ((n : Int) / 256 ^ k)), (1, .int .i64 4), (5, .string (strOfNums (be (k + 1) (n : Int)))), (6, .int .i64 (k : Int)), (11, .int .i64 4), (12, .bool true)]) (Kw.Sub.cons rfl (Kw.Sub.cons rfl (Kw.Sub.cons rfl (Kw.Sub.cons rfl (Kw.Sub.cons rfl (Kw.Sub.cons rfl Kw.Sub.nil)))))) ?_
    refine Kw.WC_region [some 23, some 24, some 0] rfl ?_
    refine Kw.WL_v rfl rfl rfl (Kw.R_move rfl) ?_
    refine Kw.WL_v rfl rfl rfl (Kw.R_quo (c := ((n : Int) / 256 ^ (k + 1))) rfl rfl (by omega) (by have h1 := div_small n k; have h2 := div_small n (k + 1); rw [Kw.tdiv_pos h1.1, div_step]; exact Kw.wrap_u64 (by omega))) ?_
    refine Kw.WL_v rfl rfl rfl (Kw.R_assign rfl) ?_
    refine Kw.WL_nil ?_
    refine Kw.QN_block ?_
    refine hK9 _ _ ?_; clear hK9 K9
    refine Kw.WC_region [some 14, some 15, some 6] rfl ?_
    refine Kw.WL_v rfl rfl rfl (Kw.R_move rfl) ?_
    refine Kw.WL_v rfl rfl rfl (Kw.R_add (c := ((k + 1 : Nat) : Int)) rfl rfl (by rw [Kw.wrap_i64 (by omega)]; omega)) ?_
    refine Kw.WL_v rfl rfl rfl (Kw.R_assign rfl) ?_
    refine Kw.WL_nil ?_
    refine Kw.QN_round (k + 1) ⟨by omega, HB⟩ (by omega) (Kw.Sub.cons rfl (Kw.Sub.cons rfl (Kw.Sub.cons rfl (Kw.Sub.cons rfl Kw.Sub.nil))))
  ·
    refine Kw.WL_v rfl rfl rfl (Kw.R_lss (z := false) rfl rfl (decide_eq_false c8)) ?_
    refine Kw.WL_v rfl rfl rfl (Kw.R_move rfl) ?_
    refine Kw.WL_off rfl rfl rfl ?_
    refine Kw.WL_off rfl rfl rfl ?_
    refine Kw.WL_v rfl rfl rfl (Kw.R_pickf rfl rfl) ?_
    refine Kw.WL_nil ?_
    refine hK7 _ _ ?_; clear hK7 K7
    refine Kw.WC_false rfl ?_
    refine Kw.WC_exit ?_
    refine Kw.QE_then ?_; clear hK6 K6
    refine Kw.QE_then ?_
    refine Kw.QE_here ?_
    refine hK3 _ _ ?_; clear hK3 K3
    refine Kw.WC_sub (l' := [(5, .string (strOfNums (be k (n : Int))))]) (Kw.Sub.cons rfl Kw.Sub.nil) ?_
    refine Kw.WC_seq (fun K12 hK12 => ?_)
    refine Kw.WC_region [some 25, some 4] rfl ?_
    refine Kw.WL_v rfl rfl rfl (Kw.R_move rfl) ?_
    refine Kw.WL_v rfl rfl rfl (Kw.R_assign rfl) ?_
    refine Kw.WL_nil ?_
    refine hK12 _ _ ?_; clear hK12 K12
    refine Kw.WC_ret ?_
    obtain rfl : k = 4 := by omega
    rw [lenB_be]
    exact Kw.post_ret1 rfl rfl ⟨rfl, HB⟩

set_option maxRecDepth 100000 in
set_option maxHeartbeats 4000000 in
theorem refGetB_c (s : ByteArray) (hs : s.size = 4) (w : World) : Calls Tryd.prog 44 #[.string s] w fun e w' => e = .returned (.int .u64 (getS s)) ∧ Below w.heap.size w w' := by
  have HB : Below w.heap.size w w := Below.refl _ _
  refine Kw.enter Tryd.func44 rfl Tryd.ntmps44 rfl rfl ?_
  refine Kw.WC_seq (fun K1 hK1 => ?_)
  refine Kw.WC_region [some 2] rfl ?_
  refine Kw.WL_v rfl rfl rfl (Kw.R_assign rfl) ?_
  refine Kw.WL_nil ?_
  refine hK1 _ _ ?_; clear hK1 K1
  refine Kw.WC_seq (fun K2 hK2 => ?_)
  refine Kw.WC_region [some 3] rfl ?_
  refine Kw.WL_v rfl rfl rfl (Kw.R_assign rfl) ?_
  refine Kw.WL_nil ?_
  refine hK2 _ _ ?_; clear hK2 K2
  refine Kw.WC_seq (fun K3 hK3 => ?_)
  refine Kw.WC_seq (fun K4 hK4 => ?_)
  refine Kw.WC_region [some 4] rfl ?_
  refine Kw.WL_v rfl rfl rfl (Kw.R_assign rfl) ?_
  refine Kw.WL_nil ?_
  refine hK4 _ _ ?_; clear hK4 K4
  refine Kw.WC_block ?_
  refine Kw.WC_loop (ι := Nat) (fun (k : Nat) (ww : World) => (k ≤ 4) ∧ Below w.heap.size w ww) (fun (k : Nat) => [(0, .string s), (3, .int .u64 (gw s k)), (4, .int .i64 (k : Int))]) (fun (k : Nat) => 4 - k) 0 ⟨by omega, HB⟩ (Kw.Sub.cons rfl (Kw.Sub.cons rfl (Kw.Sub.cons rfl Kw.Sub.nil))) ?_
  clear HB
  rintro k w5 ⟨hk, HB⟩
  have rg := gw_range s k
  have rp := pow_le k hk
  refine Kw.WC_seq (fun K6 hK6 => ?_)
  refine Kw.WC_seq (fun K7 hK7 => ?_)
  refine Kw.WC_region [some 5, some 6, some 7, some 8, some 9, some 10, some 11, some 12] rfl ?_
  refine Kw.WL_v rfl rfl rfl (Kw.R_move rfl) ?_
  refine Kw.WL_v rfl rfl rfl (Kw.R_move rfl) ?_
  refine Kw.WL_v rfl rfl rfl (Kw.R_lens Tryd.underlying9 rfl) ?_
  by_cases c8 : ((k : Int) : Int) < (s.size : Int)
  ·
    refine Kw.WL_v rfl rfl rfl (Kw.R_lss (z := true) rfl rfl (decide_eq_true c8)) ?_
    refine Kw.WL_v rfl rfl rfl (Kw.R_move rfl) ?_
    refine Kw.WL_v rfl rfl rfl (Kw.R_move rfl) ?_
    refine Kw.WL_v rfl rfl rfl (Kw.R_lss (z := true) rfl rfl (decide_eq_true (by omega))) ?_
    refine Kw.WL_v rfl rfl rfl (Kw.R_pickt rfl rfl) ?_
    refine Kw.WL_nil ?_
    refine hK7 _ _ ?_; clear hK7 K7
    refine Kw.WC_true rfl ?_
    refine Kw.WC_skip ?_
    refine hK6 _ _ ?_; clear hK6 K6
    refine Kw.WC_sub (l' := [(0, .string s), (3, .int .u64 (gw s k)), (4, .int .i64 (k : Int)), (10, .int .i64 (k : Int)), (11, .bool true)]) (Kw.Sub.cons rfl (Kw.Sub.cons rfl (Kw.Sub.cons rfl (Kw.Sub.cons rfl (Kw.Sub.cons rfl Kw.Sub.nil))))) ?_
    refine Kw.WC_seq (fun K9 hK9 => ?_)
    refine Kw.WC_block ?_
    refine Kw.WC_region [some 15, some 16, some 17, some 18, some 19, some 20, some 21, some 3] rfl ?_
    refine Kw.WL_v rfl rfl rfl (Kw.R_move rfl) ?_
    obtain ⟨x16, hx16⟩ : ∃ x : Int, x = (gw s k) * 256 := ⟨_, rfl⟩
    refine Kw.WL_v rfl rfl rfl (Kw.R_mul (c := x16) rfl rfl (by rw [Kw.wrap_u64 (by omega)]; rw [hx16])) ?_
    refine Kw.WL_v rfl rfl rfl (Kw.R_move rfl) ?_
    refine Kw.WL_v rfl rfl rfl (Kw.R_move rfl) ?_
    obtain ⟨b19, hb19⟩ : ∃ x : Int, Kw.byt s k = x := ⟨_, rfl⟩
    have rb19 : 0 ≤ b19 ∧ b19 ≤ 255 := by rw [← hb19]; exact Kw.byt_range _ _
    refine Kw.WL_v rfl rfl rfl (Kw.R_indexb (i := k) Tryd.underlying9 rfl rfl (by omega) hb19) ?_
    refine Kw.WL_v rfl rfl rfl (Kw.R_conv (c := b19) Tryd.underlying5 Tryd.underlying55 rfl (Kw.wrap_u64 (by omega))) ?_
    refine Kw.WL_v rfl rfl rfl (Kw.R_add (c := (gw s (k + 1))) rfl rfl (by rw [Kw.wrap_u64 (by omega), gw, ← hb19]; omega)) ?_
    refine Kw.WL_v rfl rfl rfl (Kw.R_assign rfl) ?_
    refine Kw.WL_nil ?_
    refine Kw.QN_block ?_
    refine hK9 _ _ ?_; clear hK9 K9
    refine Kw.WC_sub (l' := [(0, .string s), (3, .int .u64 (gw s (k + 1))), (4, .int .i64 (k : Int)), (10, .int .i64 (k : Int)), (11, .bool true)]) (Kw.Sub.cons rfl (Kw.Sub.cons rfl (Kw.Sub.cons rfl (Kw.Sub.cons rfl (Kw.Sub.cons rfl Kw.Sub.nil))))) ?_
    refine Kw.WC_region [some 13, some 14, some 4] rfl ?_
    refine Kw.WL_v rfl rfl rfl (Kw.R_move rfl) ?_
    refine Kw.WL_v rfl rfl rfl (Kw.R_add (c := ((k + 1 : Nat) : Int)) rfl rfl (by rw [Kw.wrap_i64 (by omega)]; omega)) ?_
    refine Kw.WL_v rfl rfl rfl (Kw.R_assign rfl) ?_
    refine Kw.WL_nil ?_
    refine Kw.QN_round (k + 1) ⟨by omega, HB⟩ (by omega) (Kw.Sub.cons rfl (Kw.Sub.cons rfl (Kw.Sub.cons rfl Kw.Sub.nil)))
  ·
    refine Kw.WL_v rfl rfl rfl (Kw.R_lss (z := false) rfl rfl (decide_eq_false c8)) ?_
    refine Kw.WL_v rfl rfl rfl (Kw.R_move rfl) ?_
    refine Kw.WL_off rfl rfl rfl ?_
    refine Kw.WL_off rfl rfl rfl ?_
    refine Kw.WL_v rfl rfl rfl (Kw.R_pickf rfl rfl) ?_
    refine Kw.WL_nil ?_
    refine hK7 _ _ ?_; clear hK7 K7
    refine Kw.WC_false rfl ?_
    refine Kw.WC_exit ?_
    refine Kw.QE_then ?_; clear hK6 K6
    refine Kw.QE_then ?_
    refine Kw.QE_here ?_
    refine hK3 _ _ ?_; clear hK3 K3
    refine Kw.WC_sub (l' := [(3, .int .u64 (gw s k))]) (Kw.Sub.cons rfl Kw.Sub.nil) ?_
    refine Kw.WC_seq (fun K10 hK10 => ?_)
    refine Kw.WC_region [some 22, some 2] rfl ?_
    refine Kw.WL_v rfl rfl rfl (Kw.R_move rfl) ?_
    refine Kw.WL_v rfl rfl rfl (Kw.R_assign rfl) ?_
    refine Kw.WL_nil ?_
    refine hK10 _ _ ?_; clear hK10 K10
    refine Kw.WC_ret ?_
    obtain rfl : k = 4 := by omega
    rw [← gw4 s hs]
    exact Kw.post_ret1 rfl rfl ⟨rfl, HB⟩

set_option maxRecDepth 100000 in
set_option maxHeartbeats 4000000 in
theorem refput_c (p : ByteArray) (hp : p.size ≤ 65536) (w : World) : Calls Tryd.prog 19 #[.string p] w fun e w' => e = .returned (.tuple #[.string (frm p), .int .i64 0]) ∧ Below w.heap.size w w' := by
  have HB : Below w.heap.size w w := Below.refl _ _
  refine Kw.enter Tryd.func19 rfl Tryd.ntmps19 rfl rfl ?_
  refine Kw.WC_seq (fun K1 hK1 => ?_)
  refine Kw.WC_region [some 2, some 3] rfl ?_
  refine Kw.WL_v rfl rfl rfl (Kw.R_assign rfl) ?_
  refine Kw.WL_v rfl rfl rfl (Kw.R_assign rfl) ?_
  refine Kw.WL_nil ?_
  refine hK1 _ _ ?_; clear hK1 K1
  refine Kw.WC_seq (fun K2 hK2 => ?_)
  refine Kw.WC_seq (fun K3 hK3 => ?_)
  refine Kw.WC_region [some 6, some 7, some 8] rfl ?_
  refine Kw.WL_v rfl rfl rfl (Kw.R_move rfl) ?_
  refine Kw.WL_v rfl rfl rfl (Kw.R_lens Tryd.underlying9 rfl) ?_
  refine Kw.WL_v rfl rfl rfl (Kw.R_gtr (z := false) rfl rfl (decide_eq_false (by omega))) ?_
  refine Kw.WL_nil ?_
  refine hK3 _ _ ?_; clear hK3 K3
  refine Kw.WC_false rfl ?_
  refine Kw.WC_skip ?_
  refine hK2 _ _ ?_; clear hK2 K2
  refine Kw.WC_seq (fun K4 hK4 => ?_)
  refine Kw.WC_region [some 9, some 10, some 11, some 12, some 4] rfl ?_
  refine Kw.WL_v rfl rfl rfl (Kw.R_move rfl) ?_
  refine Kw.WL_v rfl rfl rfl (Kw.R_lens Tryd.underlying9 rfl) ?_
  refine Kw.WL_v rfl rfl rfl (Kw.R_conv (c := (p.size : Int)) Tryd.underlying3 Tryd.underlying55 rfl (Kw.wrap_u64 (by omega))) ?_
  refine Kw.WL_callc rfl rfl rfl rfl F.cl35 rfl (refPutB_c p.size (by omega) _) ?_; intro w5 bw5
  replace HB := Kw.Below.then HB (Nat.le_refl _) bw5
  clear bw5
  refine Kw.WL_v rfl rfl rfl (Kw.R_assign rfl) ?_
  refine Kw.WL_nil ?_
  refine hK4 _ _ ?_; clear hK4 K4
  refine Kw.WC_sub (l' := [(0, .string p), (4, .string (lenB p.size))]) (Kw.Sub.cons rfl (Kw.Sub.cons rfl Kw.Sub.nil)) ?_
  refine Kw.WC_seq (fun K6 hK6 => ?_)
  refine Kw.WC_region [some 13, some 14, some 15, some 16, some 5, none] rfl ?_
  refine Kw.WL_v rfl rfl rfl (Kw.R_move rfl) ?_
  refine Kw.WL_v rfl rfl rfl (Kw.R_move rfl) ?_
  refine Kw.WL_v rfl rfl rfl (Kw.R_adds (r := (lenB p.size ++ p)) rfl rfl (by rw [lenB_size]; omega) (rfl)) ?_
  refine Kw.WL_callc rfl rfl rfl rfl F.cl12 rfl (refSum_c (lenB p.size ++ p) (by rw [ByteArray.size_append, lenB_size]; omega) _) ?_; intro w7 bw7
  replace HB := Kw.Below.then HB (Nat.le_refl _) bw7
  clear bw7
  refine Kw.WL_alloc rfl rfl F.zr24 ?_; intro g5 w8 N_g5
  have A_g5 : Kw.At w8 g5 F.Z24 24 := N_g5.at_
  have G_g5 := N_g5.ge HB (Nat.le_refl _); replace HB := N_g5.below HB (Nat.le_refl _); clear N_g5
  refine Kw.WL_storeW rfl rfl rfl (by rw [cells8_size]; first | (rw [sumV_length]; exact F.sz24) | exact F.sz24) A_g5 (by rw [cells8_size, sumV_length]; rfl) (by simpa using cells8_one _) ?_; intro w9 M_g5
  replace A_g5 : Kw.At w9 g5 (cells8 (sumV K64 H8 (lenB p.size ++ p))) 24 := M_g5.at_ A_g5
  replace HB := M_g5.below HB G_g5; clear M_g5
  refine Kw.WL_nil ?_
  refine hK6 _ _ ?_; clear hK6 K6
  refine Kw.WC_seq (fun K10 hK10 => ?_)
  refine Kw.WC_region [some 17, some 18, some 19, some 20, some 21, some 22, some 2, some 3] rfl ?_
  refine Kw.WL_v rfl rfl rfl (Kw.R_move rfl) ?_
  refine Kw.WL_v rfl rfl rfl (Kw.R_sliceA (i := 0) (j := 8) (m := 32) (o' := 0) rfl Tryd.underlying24 F.sz5 rfl ⟨_, rfl⟩ rfl (by omega) (by omega) (by omega) rfl (by simp)) ?_
  refine Kw.WL_v rfl rfl rfl (Kw.R_convbs (bs := octL (sumV K64 H8 (lenB p.size ++ p))) (r := (oct (sumV K64 H8 (lenB p.size ++ p)))) Tryd.underlying32 Tryd.underlying5 Tryd.underlying9 rfl A_g5 (by unfold octL; simp [sumV_length]) (fun j hj => oct_cells _ (by rw [sumV_length]; omega) (sumV_bytes _ _ _) j hj) (rfl)) ?_
  refine Kw.WL_v rfl rfl rfl (Kw.R_adds (r := (hd p)) rfl rfl (by rw [lenB_size, oct_size _ (by rw [sumV_length]; omega)]; omega) (rfl)) ?_
  refine Kw.WL_v rfl rfl rfl (Kw.R_move rfl) ?_
  refine Kw.WL_v rfl rfl rfl (Kw.R_adds (r := (frm p)) rfl rfl (by rw [hd_size]; omega) (rfl)) ?_
  refine Kw.WL_v rfl rfl rfl (Kw.R_assign rfl) ?_
  refine Kw.WL_v rfl rfl rfl (Kw.R_assign rfl) ?_
  refine Kw.WL_nil ?_
  refine hK10 _ _ ?_; clear hK10 K10
  refine Kw.WC_sub (l' := [(2, .string (frm p)), (3, .int .i64 0)]) (Kw.Sub.cons rfl (Kw.Sub.cons rfl Kw.Sub.nil)) ?_
  refine Kw.WC_ret ?_
  exact Kw.post_ret2 rfl rfl rfl ⟨rfl, HB⟩
set_option maxRecDepth 100000 in
set_option maxHeartbeats 4000000 in
theorem refput_long (p : ByteArray) (hp : 65536 < p.size) (w : World) : Calls Tryd.prog 19 #[.string p] w fun e w' => e = .returned (.tuple #[.string ⟨#[]⟩, .int .i64 3]) ∧ Below w.heap.size w w' := by
  have HB : Below w.heap.size w w := Below.refl _ _
  refine Kw.enter Tryd.func19 rfl Tryd.ntmps19 rfl rfl ?_
  refine Kw.WC_seq (fun K1 hK1 => ?_)
  refine Kw.WC_region [some 2, some 3] rfl ?_
  refine Kw.WL_v rfl rfl rfl (Kw.R_assign rfl) ?_
  refine Kw.WL_v rfl rfl rfl (Kw.R_assign rfl) ?_
  refine Kw.WL_nil ?_
  refine hK1 _ _ ?_; clear hK1 K1
  refine Kw.WC_seq (fun K2 hK2 => ?_)
  refine Kw.WC_seq (fun K3 hK3 => ?_)
  refine Kw.WC_region [some 6, some 7, some 8] rfl ?_
  refine Kw.WL_v rfl rfl rfl (Kw.R_move rfl) ?_
  refine Kw.WL_v rfl rfl rfl (Kw.R_lens Tryd.underlying9 rfl) ?_
  refine Kw.WL_v rfl rfl rfl (Kw.R_gtr (z := true) rfl rfl (decide_eq_true (by omega))) ?_
  refine Kw.WL_nil ?_
  refine hK3 _ _ ?_; clear hK3 K3
  refine Kw.WC_true rfl ?_
  refine Kw.WC_seq (fun K4 hK4 => ?_)
  refine Kw.WC_region [some 2, some 3] rfl ?_
  refine Kw.WL_v rfl rfl rfl (Kw.R_assign rfl) ?_
  refine Kw.WL_v rfl rfl rfl (Kw.R_assign rfl) ?_
  refine Kw.WL_nil ?_
  refine hK4 _ _ ?_; clear hK4 K4
  refine Kw.WC_ret ?_
  refine Kw.QR_then ?_; clear hK2 K2
  exact Kw.post_ret2 rfl rfl rfl ⟨rfl, HB⟩

set_option maxRecDepth 100000 in
set_option maxHeartbeats 4000000 in
theorem refget_c (s : ByteArray) (hs : s.size ≤ 1000000) (a : Int) (ha : -9223372036854775808 ≤ a ∧ a ≤ 9223372036854775807) (w : World) : Calls Tryd.prog 36 #[.string s, .int .i64 a] w fun e w' => e = .returned (getR s a) ∧ Below w.heap.size w w' := by
  have HB : Below w.heap.size w w := Below.refl _ _
  refine Kw.enter Tryd.func36 rfl Tryd.ntmps36 rfl rfl ?_
  refine Kw.WC_seq (fun K1 hK1 => ?_)
  refine Kw.WC_region [some 4, some 5, some 6] rfl ?_
  refine Kw.WL_v rfl rfl rfl (Kw.R_assign rfl) ?_
  refine Kw.WL_v rfl rfl rfl (Kw.R_assign rfl) ?_
  refine Kw.WL_v rfl rfl rfl (Kw.R_assign rfl) ?_
  refine Kw.WL_nil ?_
  refine hK1 _ _ ?_; clear hK1 K1
  refine Kw.WC_seq (fun K2 hK2 => ?_)
  refine Kw.WC_seq (fun K3 hK3 => ?_)
  refine Kw.WC_region [some 11, some 12, some 13, some 14, some 15, some 16, some 17, some 18, some 19, some 20, some 21, some 22, some 23, some 24, some 25] rfl ?_
  refine Kw.WL_v rfl rfl rfl (Kw.R_move rfl) ?_
  by_cases c4 : (a : Int) < 0
  ·
    refine Kw.WL_v rfl rfl rfl (Kw.R_lss (z := true) rfl rfl (decide_eq_true c4)) ?_
    refine Kw.WL_v rfl rfl rfl (Kw.R_move rfl) ?_
    refine Kw.WL_off rfl rfl rfl ?_
    refine Kw.WL_off rfl rfl rfl ?_
    refine Kw.WL_off rfl rfl rfl ?_
    refine Kw.WL_off rfl rfl rfl ?_
    refine Kw.WL_v rfl rfl rfl (Kw.R_pickt rfl rfl) ?_
    refine Kw.WL_v rfl rfl rfl (Kw.R_move rfl) ?_
    refine Kw.WL_off rfl rfl rfl ?_
    refine Kw.WL_off rfl rfl rfl ?_
    refine Kw.WL_off rfl rfl rfl ?_
    refine Kw.WL_off rfl rfl rfl ?_
    refine Kw.WL_off rfl rfl rfl ?_
    refine Kw.WL_v rfl rfl rfl (Kw.R_pickt rfl rfl) ?_
    refine Kw.WL_nil ?_
    refine hK3 _ _ ?_; clear hK3 K3
    refine Kw.WC_sub (l' := [(0, .string s), (1, .int .i64 a), (25, .bool true)]) (Kw.Sub.cons rfl (Kw.Sub.cons rfl (Kw.Sub.cons rfl Kw.Sub.nil))) ?_
    refine Kw.WC_true rfl ?_
    refine Kw.WC_seq (fun K5 hK5 => ?_)
    refine Kw.WC_region [some 4, some 5, some 6] rfl ?_
    refine Kw.WL_v rfl rfl rfl (Kw.R_assign rfl) ?_
    refine Kw.WL_v rfl rfl rfl (Kw.R_assign rfl) ?_
    refine Kw.WL_v rfl rfl rfl (Kw.R_assign rfl) ?_
    refine Kw.WL_nil ?_
    refine hK5 _ _ ?_; clear hK5 K5
    refine Kw.WC_ret ?_
    refine Kw.QR_then ?_; clear hK2 K2
    first
    | exact Kw.post_ret3 rfl rfl rfl rfl ⟨ret_val (getR_out (by omega)).symm, HB⟩
    | exact Kw.post_ret3 rfl rfl rfl rfl ⟨ret_val (getR_none (by omega) (by rw [← hq]; exact cut_no2 q (by omega))).symm, HB⟩
    | exact Kw.post_ret3 rfl rfl rfl rfl ⟨ret_val (getR_none (by omega) (by rw [← hq]; exact cut_no3 q (by omega))).symm, HB⟩
    | exact Kw.post_ret3 rfl rfl rfl rfl ⟨ret_val (getR_none (by omega) (by rw [← hq, cut_last q (by omega) (by omega) (by omega), ← hn, ← hp, if_neg (fun h => (by assumption : ¬ _) (hiff.2 h))])).symm, HB⟩
    | (obtain ⟨k, rfl⟩ : ∃ k : Nat, a = (k : Int) := ⟨a.toNat, by omega⟩; exact Kw.post_ret3 rfl rfl rfl rfl ⟨ret_val (getR_none (by omega) (cut_no1 _ (by rw [ByteArray.size_extract]; omega))).symm, HB⟩)
  ·
    refine Kw.WL_v rfl rfl rfl (Kw.R_lss (z := false) rfl rfl (decide_eq_false c4)) ?_
    refine Kw.WL_v rfl rfl rfl (Kw.R_move rfl) ?_
    refine Kw.WL_v rfl rfl rfl (Kw.R_move rfl) ?_
    refine Kw.WL_v rfl rfl rfl (Kw.R_move rfl) ?_
    refine Kw.WL_v rfl rfl rfl (Kw.R_lens Tryd.underlying9 rfl) ?_
    by_cases c6 : ((s.size : Int) : Int) < a
    ·
      refine Kw.WL_v rfl rfl rfl (Kw.R_gtr (z := true) rfl rfl (decide_eq_true c6)) ?_
      refine Kw.WL_v rfl rfl rfl (Kw.R_pickf rfl rfl) ?_
      refine Kw.WL_v rfl rfl rfl (Kw.R_move rfl) ?_
      refine Kw.WL_off rfl rfl rfl ?_
      refine Kw.WL_off rfl rfl rfl ?_
      refine Kw.WL_off rfl rfl rfl ?_
      refine Kw.WL_off rfl rfl rfl ?_
      refine Kw.WL_off rfl rfl rfl ?_
      refine Kw.WL_v rfl rfl rfl (Kw.R_pickt rfl rfl) ?_
      refine Kw.WL_nil ?_
      refine hK3 _ _ ?_; clear hK3 K3
      refine Kw.WC_sub (l' := [(0, .string s), (1, .int .i64 a), (25, .bool true)]) (Kw.Sub.cons rfl (Kw.Sub.cons rfl (Kw.Sub.cons rfl Kw.Sub.nil))) ?_
      refine Kw.WC_true rfl ?_
      refine Kw.WC_seq (fun K7 hK7 => ?_)
      refine Kw.WC_region [some 4, some 5, some 6] rfl ?_
      refine Kw.WL_v rfl rfl rfl (Kw.R_assign rfl) ?_
      refine Kw.WL_v rfl rfl rfl (Kw.R_assign rfl) ?_
      refine Kw.WL_v rfl rfl rfl (Kw.R_assign rfl) ?_
      refine Kw.WL_nil ?_
      refine hK7 _ _ ?_; clear hK7 K7
      refine Kw.WC_ret ?_
      refine Kw.QR_then ?_; clear hK2 K2
      first
      | exact Kw.post_ret3 rfl rfl rfl rfl ⟨ret_val (getR_out (by omega)).symm, HB⟩
      | exact Kw.post_ret3 rfl rfl rfl rfl ⟨ret_val (getR_none (by omega) (by rw [← hq]; exact cut_no2 q (by omega))).symm, HB⟩
      | exact Kw.post_ret3 rfl rfl rfl rfl ⟨ret_val (getR_none (by omega) (by rw [← hq]; exact cut_no3 q (by omega))).symm, HB⟩
      | exact Kw.post_ret3 rfl rfl rfl rfl ⟨ret_val (getR_none (by omega) (by rw [← hq, cut_last q (by omega) (by omega) (by omega), ← hn, ← hp, if_neg (fun h => (by assumption : ¬ _) (hiff.2 h))])).symm, HB⟩
      | (obtain ⟨k, rfl⟩ : ∃ k : Nat, a = (k : Int) := ⟨a.toNat, by omega⟩; exact Kw.post_ret3 rfl rfl rfl rfl ⟨ret_val (getR_none (by omega) (cut_no1 _ (by rw [ByteArray.size_extract]; omega))).symm, HB⟩)
    ·
      refine Kw.WL_v rfl rfl rfl (Kw.R_gtr (z := false) rfl rfl (decide_eq_false c6)) ?_
      refine Kw.WL_v rfl rfl rfl (Kw.R_pickf rfl rfl) ?_
      refine Kw.WL_v rfl rfl rfl (Kw.R_move rfl) ?_
      refine Kw.WL_v rfl rfl rfl (Kw.R_move rfl) ?_
      refine Kw.WL_v rfl rfl rfl (Kw.R_lens Tryd.underlying9 rfl) ?_
      refine Kw.WL_v rfl rfl rfl (Kw.R_move rfl) ?_
      obtain ⟨x23, hx23⟩ : ∃ x : Int, x = (s.size : Int) - a := ⟨_, rfl⟩
      refine Kw.WL_v rfl rfl rfl (Kw.R_sub (c := x23) rfl rfl (by rw [Kw.wrap_i64 (by omega)]; rw [hx23])) ?_
      by_cases c8 : (x23 : Int) < 12
      ·
        refine Kw.WL_v rfl rfl rfl (Kw.R_lss (z := true) rfl rfl (decide_eq_true c8)) ?_
        refine Kw.WL_v rfl rfl rfl (Kw.R_pickf rfl rfl) ?_
        refine Kw.WL_nil ?_
        refine hK3 _ _ ?_; clear hK3 K3
        refine Kw.WC_sub (l' := [(0, .string s), (1, .int .i64 a), (25, .bool true)]) (Kw.Sub.cons rfl (Kw.Sub.cons rfl (Kw.Sub.cons rfl Kw.Sub.nil))) ?_
        refine Kw.WC_true rfl ?_
        refine Kw.WC_seq (fun K9 hK9 => ?_)
        refine Kw.WC_region [some 4, some 5, some 6] rfl ?_
        refine Kw.WL_v rfl rfl rfl (Kw.R_assign rfl) ?_
        refine Kw.WL_v rfl rfl rfl (Kw.R_assign rfl) ?_
        refine Kw.WL_v rfl rfl rfl (Kw.R_assign rfl) ?_
        refine Kw.WL_nil ?_
        refine hK9 _ _ ?_; clear hK9 K9
        refine Kw.WC_ret ?_
        refine Kw.QR_then ?_; clear hK2 K2
        first
        | exact Kw.post_ret3 rfl rfl rfl rfl ⟨ret_val (getR_out (by omega)).symm, HB⟩
        | exact Kw.post_ret3 rfl rfl rfl rfl ⟨ret_val (getR_none (by omega) (by rw [← hq]; exact cut_no2 q (by omega))).symm, HB⟩
        | exact Kw.post_ret3 rfl rfl rfl rfl ⟨ret_val (getR_none (by omega) (by rw [← hq]; exact cut_no3 q (by omega))).symm, HB⟩
        | exact Kw.post_ret3 rfl rfl rfl rfl ⟨ret_val (getR_none (by omega) (by rw [← hq, cut_last q (by omega) (by omega) (by omega), ← hn, ← hp, if_neg (fun h => (by assumption : ¬ _) (hiff.2 h))])).symm, HB⟩
        | (obtain ⟨k, rfl⟩ : ∃ k : Nat, a = (k : Int) := ⟨a.toNat, by omega⟩; exact Kw.post_ret3 rfl rfl rfl rfl ⟨ret_val (getR_none (by omega) (cut_no1 _ (by rw [ByteArray.size_extract]; omega))).symm, HB⟩)
      ·
        refine Kw.WL_v rfl rfl rfl (Kw.R_lss (z := false) rfl rfl (decide_eq_false c8)) ?_
        refine Kw.WL_v rfl rfl rfl (Kw.R_pickf rfl rfl) ?_
        refine Kw.WL_nil ?_
        refine hK3 _ _ ?_; clear hK3 K3
        refine Kw.WC_sub (l' := [(0, .string s), (1, .int .i64 a), (25, .bool false)]) (Kw.Sub.cons rfl (Kw.Sub.cons rfl (Kw.Sub.cons rfl Kw.Sub.nil))) ?_
        refine Kw.WC_false rfl ?_
        refine Kw.WC_skip ?_
        refine hK2 _ _ ?_; clear hK2 K2
        refine Kw.WC_seq (fun K10 hK10 => ?_)
        refine Kw.WC_region [some 26, some 27, some 28, some 29, some 30, some 31, some 7] rfl ?_
        obtain ⟨k, rfl⟩ : ∃ k : Nat, a = (k : Int) := ⟨a.toNat, by omega⟩
        obtain ⟨q, hq⟩ : ∃ q, q = s.extract k s.size := ⟨_, rfl⟩
        have hqs : q.size = s.size - k := by rw [hq, ByteArray.size_extract]; omega
        refine Kw.WL_v rfl rfl rfl (Kw.R_move rfl) ?_
        refine Kw.WL_v rfl rfl rfl (Kw.R_move rfl) ?_
        refine Kw.WL_v rfl rfl rfl (Kw.R_move rfl) ?_
        refine Kw.WL_v rfl rfl rfl (Kw.R_add (c := ((k + 4 : Nat) : Int)) rfl rfl (by rw [Kw.wrap_i64 (by omega)]; omega)) ?_
        refine Kw.WL_v rfl rfl rfl (Kw.R_slices (i := k) (j := (k + 4 : Nat)) (r := (s.extract k (k + 4))) Tryd.underlying9 rfl ⟨_, rfl⟩ ⟨_, rfl⟩ (by omega) (by omega) (rfl)) ?_
        obtain ⟨n, hn⟩ : ∃ n, n = num4 q := ⟨_, rfl⟩
        have rn : 0 ≤ n ∧ n < 4294967296 := by rw [hn]; exact num4_range q (by omega)
        have hn4 : getS (s.extract k (k + 4)) = n := by rw [hn]; unfold num4; rw [hq, ext_ext s k 0 4 (by omega)]; rfl
        refine Kw.WL_callc rfl rfl rfl rfl F.cl44 rfl (by have kk := refGetB_c (s.extract k (k + 4)) (by rw [ByteArray.size_extract]; omega) w; rw [hn4] at kk; exact kk) ?_; intro w11 bw11
        replace HB := Kw.Below.then HB (Nat.le_refl _) bw11
        clear bw11
        refine Kw.WL_v rfl rfl rfl (Kw.R_assign rfl) ?_
        refine Kw.WL_nil ?_
        refine hK10 _ _ ?_; clear hK10 K10
        refine Kw.WC_sub (l' := [(0, .string s), (1, .int .i64 (k : Int)), (7, .int .u64 n)]) (Kw.Sub.cons rfl (Kw.Sub.cons rfl (Kw.Sub.cons rfl Kw.Sub.nil))) ?_
        refine Kw.WC_seq (fun K12 hK12 => ?_)
        refine Kw.WC_seq (fun K13 hK13 => ?_)
        refine Kw.WC_region [some 32, some 33, some 34, some 35, some 36, some 37, some 38, some 39] rfl ?_
        refine Kw.WL_v rfl rfl rfl (Kw.R_move rfl) ?_
        refine Kw.WL_v rfl rfl rfl (Kw.R_move rfl) ?_
        refine Kw.WL_v rfl rfl rfl (Kw.R_lens Tryd.underlying9 rfl) ?_
        refine Kw.WL_v rfl rfl rfl (Kw.R_move rfl) ?_
        obtain ⟨x36, hx36⟩ : ∃ x : Int, x = (s.size : Int) - (k : Int) := ⟨_, rfl⟩
        refine Kw.WL_v rfl rfl rfl (Kw.R_sub (c := x36) rfl rfl (by rw [Kw.wrap_i64 (by omega)]; rw [hx36])) ?_
        obtain ⟨x37, hx37⟩ : ∃ x : Int, x = x36 - 12 := ⟨_, rfl⟩
        refine Kw.WL_v rfl rfl rfl (Kw.R_sub (c := x37) rfl rfl (by rw [Kw.wrap_i64 (by omega)]; rw [hx37])) ?_
        refine Kw.WL_v rfl rfl rfl (Kw.R_conv (c := x37) Tryd.underlying3 Tryd.underlying55 rfl (Kw.wrap_u64 (by omega))) ?_
        by_cases c14 : (x37 : Int) < n
        ·
          refine Kw.WL_v rfl rfl rfl (Kw.R_gtr (z := true) rfl rfl (decide_eq_true c14)) ?_
          refine Kw.WL_nil ?_
          refine hK13 _ _ ?_; clear hK13 K13
          refine Kw.WC_sub (l' := [(0, .string s), (1, .int .i64 (k : Int)), (7, .int .u64 n), (39, .bool true)]) (Kw.Sub.cons rfl (Kw.Sub.cons rfl (Kw.Sub.cons rfl (Kw.Sub.cons rfl Kw.Sub.nil)))) ?_
          refine Kw.WC_true rfl ?_
          refine Kw.WC_seq (fun K15 hK15 => ?_)
          refine Kw.WC_region [some 4, some 5, some 6] rfl ?_
          refine Kw.WL_v rfl rfl rfl (Kw.R_assign rfl) ?_
          refine Kw.WL_v rfl rfl rfl (Kw.R_assign rfl) ?_
          refine Kw.WL_v rfl rfl rfl (Kw.R_assign rfl) ?_
          refine Kw.WL_nil ?_
          refine hK15 _ _ ?_; clear hK15 K15
          refine Kw.WC_ret ?_
          refine Kw.QR_then ?_; clear hK12 K12
          first
          | exact Kw.post_ret3 rfl rfl rfl rfl ⟨ret_val (getR_out (by omega)).symm, HB⟩
          | exact Kw.post_ret3 rfl rfl rfl rfl ⟨ret_val (getR_none (by omega) (by rw [← hq]; exact cut_no2 q (by omega))).symm, HB⟩
          | exact Kw.post_ret3 rfl rfl rfl rfl ⟨ret_val (getR_none (by omega) (by rw [← hq]; exact cut_no3 q (by omega))).symm, HB⟩
          | exact Kw.post_ret3 rfl rfl rfl rfl ⟨ret_val (getR_none (by omega) (by rw [← hq, cut_last q (by omega) (by omega) (by omega), ← hn, ← hp, if_neg (fun h => (by assumption : ¬ _) (hiff.2 h))])).symm, HB⟩
          | (obtain ⟨k, rfl⟩ : ∃ k : Nat, a = (k : Int) := ⟨a.toNat, by omega⟩; exact Kw.post_ret3 rfl rfl rfl rfl ⟨ret_val (getR_none (by omega) (cut_no1 _ (by rw [ByteArray.size_extract]; omega))).symm, HB⟩)
        ·
          refine Kw.WL_v rfl rfl rfl (Kw.R_gtr (z := false) rfl rfl (decide_eq_false c14)) ?_
          refine Kw.WL_nil ?_
          refine hK13 _ _ ?_; clear hK13 K13
          refine Kw.WC_sub (l' := [(0, .string s), (1, .int .i64 (k : Int)), (7, .int .u64 n), (39, .bool false)]) (Kw.Sub.cons rfl (Kw.Sub.cons rfl (Kw.Sub.cons rfl (Kw.Sub.cons rfl Kw.Sub.nil)))) ?_
          refine Kw.WC_false rfl ?_
          refine Kw.WC_skip ?_
          refine hK12 _ _ ?_; clear hK12 K12
          refine Kw.WC_seq (fun K16 hK16 => ?_)
          refine Kw.WC_region [some 40, some 41, some 42, some 43, some 44, some 45, some 46, some 47, some 48, some 8] rfl ?_
          refine Kw.WL_v rfl rfl rfl (Kw.R_move rfl) ?_
          refine Kw.WL_v rfl rfl rfl (Kw.R_move rfl) ?_
          refine Kw.WL_v rfl rfl rfl (Kw.R_add (c := ((k + 12 : Nat) : Int)) rfl rfl (by rw [Kw.wrap_i64 (by omega)]; omega)) ?_
          refine Kw.WL_v rfl rfl rfl (Kw.R_move rfl) ?_
          refine Kw.WL_v rfl rfl rfl (Kw.R_add (c := ((k + 12 : Nat) : Int)) rfl rfl (by rw [Kw.wrap_i64 (by omega)]; omega)) ?_
          refine Kw.WL_v rfl rfl rfl (Kw.R_move rfl) ?_
          refine Kw.WL_v rfl rfl rfl (Kw.R_conv (c := n) Tryd.underlying55 Tryd.underlying3 rfl (Kw.wrap_i64 (by omega))) ?_
          obtain ⟨e, he⟩ : ∃ x : Nat, (x : Int) = ((k + 12 : Nat) : Int) + n := ⟨(((k + 12 : Nat) : Int) + n).toNat, by omega⟩
          refine Kw.WL_v rfl rfl rfl (Kw.R_add (c := (e : Int)) rfl rfl (by rw [Kw.wrap_i64 (by omega)]; rw [he])) ?_
          refine Kw.WL_v rfl rfl rfl (Kw.R_slices (i := (k + 12 : Nat)) (j := e) (r := (s.extract (k + 12) e)) Tryd.underlying9 rfl ⟨_, rfl⟩ ⟨_, rfl⟩ (by omega) (by omega) (rfl)) ?_
          refine Kw.WL_v rfl rfl rfl (Kw.R_assign rfl) ?_
          refine Kw.WL_nil ?_
          refine hK16 _ _ ?_; clear hK16 K16
          refine Kw.WC_sub (l' := [(0, .string s), (1, .int .i64 (k : Int)), (7, .int .u64 n), (8, .string (s.extract (k + 12) e))]) (Kw.Sub.cons rfl (Kw.Sub.cons rfl (Kw.Sub.cons rfl (Kw.Sub.cons rfl Kw.Sub.nil)))) ?_
          refine Kw.WC_seq (fun K17 hK17 => ?_)
          refine Kw.WC_region [some 50, some 51, some 49, some 52, some 53, some 9, some 10] rfl ?_
          refine Kw.WL_v rfl rfl rfl (Kw.R_move rfl) ?_
          have he : e = k + (12 + n.toNat) := by omega
          have hp : s.extract (k + 12) e = q.extract 12 (12 + n.toNat) := by rw [hq, ext_ext s k 12 (12 + n.toNat) (by omega), he]
          have hps : (s.extract (k + 12) e).size = n.toNat := by rw [ByteArray.size_extract]; omega
          by_cases hlong : 65536 < n
          ·
            refine Kw.WL_callc rfl rfl rfl rfl F.cl19 rfl (refput_long (s.extract (k + 12) e) (by omega) _) ?_; intro w18 bw18
            replace HB := Kw.Below.then HB (Nat.le_refl _) bw18
            clear bw18
            refine Kw.WL_v rfl rfl rfl (Kw.R_move rfl) ?_
            refine Kw.WL_v rfl rfl rfl (Kw.R_extract (v := .string ⟨#[]⟩) rfl rfl) ?_
            refine Kw.WL_v rfl rfl rfl (Kw.R_extract (v := .int .i64 3) rfl rfl) ?_
            refine Kw.WL_v rfl rfl rfl (Kw.R_assign rfl) ?_
            refine Kw.WL_v rfl rfl rfl (Kw.R_assign rfl) ?_
            refine Kw.WL_nil ?_
            refine hK17 _ _ ?_; clear hK17 K17
            refine Kw.WC_seq (fun K19 hK19 => ?_)
            refine Kw.WC_seq (fun K20 hK20 => ?_)
            refine Kw.WC_region [some 54, some 55, some 56, some 57, some 58, some 59, some 60, some 61, some 62, some 63, some 64, some 65, some 66, some 67] rfl ?_
            refine Kw.WL_v rfl rfl rfl (Kw.R_move rfl) ?_
            refine Kw.WL_v rfl rfl rfl (Kw.R_nei (z := true) rfl rfl (decide_eq_false (by decide))) ?_
            refine Kw.WL_v rfl rfl rfl (Kw.R_move rfl) ?_
            refine Kw.WL_off rfl rfl rfl ?_
            refine Kw.WL_off rfl rfl rfl ?_
            refine Kw.WL_off rfl rfl rfl ?_
            refine Kw.WL_off rfl rfl rfl ?_
            refine Kw.WL_off rfl rfl rfl ?_
            refine Kw.WL_off rfl rfl rfl ?_
            refine Kw.WL_off rfl rfl rfl ?_
            refine Kw.WL_off rfl rfl rfl ?_
            refine Kw.WL_off rfl rfl rfl ?_
            refine Kw.WL_off rfl rfl rfl ?_
            refine Kw.WL_v rfl rfl rfl (Kw.R_pickt rfl rfl) ?_
            refine Kw.WL_nil ?_
            refine hK20 _ _ ?_; clear hK20 K20
            refine Kw.WC_sub (l' := [(1, .int .i64 (k : Int)), (8, .string (s.extract (k + 12) e)), (9, .string ⟨#[]⟩), (67, .bool true)]) (Kw.Sub.cons rfl (Kw.Sub.cons rfl (Kw.Sub.cons rfl (Kw.Sub.cons rfl Kw.Sub.nil)))) ?_
            refine Kw.WC_true rfl ?_
            refine Kw.WC_seq (fun K21 hK21 => ?_)
            refine Kw.WC_region [some 4, some 5, some 6] rfl ?_
            refine Kw.WL_v rfl rfl rfl (Kw.R_assign rfl) ?_
            refine Kw.WL_v rfl rfl rfl (Kw.R_assign rfl) ?_
            refine Kw.WL_v rfl rfl rfl (Kw.R_assign rfl) ?_
            refine Kw.WL_nil ?_
            refine hK21 _ _ ?_; clear hK21 K21
            refine Kw.WC_ret ?_
            refine Kw.QR_then ?_; clear hK19 K19
            first
            | exact Kw.post_ret3 rfl rfl rfl rfl ⟨ret_val (getR_out (by omega)).symm, HB⟩
            | exact Kw.post_ret3 rfl rfl rfl rfl ⟨ret_val (getR_none (by omega) (by rw [← hq]; exact cut_no2 q (by omega))).symm, HB⟩
            | exact Kw.post_ret3 rfl rfl rfl rfl ⟨ret_val (getR_none (by omega) (by rw [← hq]; exact cut_no3 q (by omega))).symm, HB⟩
            | exact Kw.post_ret3 rfl rfl rfl rfl ⟨ret_val (getR_none (by omega) (by rw [← hq, cut_last q (by omega) (by omega) (by omega), ← hn, ← hp, if_neg (fun h => (by assumption : ¬ _) (hiff.2 h))])).symm, HB⟩
            | (obtain ⟨k, rfl⟩ : ∃ k : Nat, a = (k : Int) := ⟨a.toNat, by omega⟩; exact Kw.post_ret3 rfl rfl rfl rfl ⟨ret_val (getR_none (by omega) (cut_no1 _ (by rw [ByteArray.size_extract]; omega))).symm, HB⟩)
          ·
            refine Kw.WL_callc rfl rfl rfl rfl F.cl19 rfl (refput_c (s.extract (k + 12) e) (by omega) _) ?_; intro w22 bw22
            replace HB := Kw.Below.then HB (Nat.le_refl _) bw22
            clear bw22
            refine Kw.WL_v rfl rfl rfl (Kw.R_move rfl) ?_
            refine Kw.WL_v rfl rfl rfl (Kw.R_extract (v := .string (frm (s.extract (k + 12) e))) rfl rfl) ?_
            refine Kw.WL_v rfl rfl rfl (Kw.R_extract (v := .int .i64 0) rfl rfl) ?_
            refine Kw.WL_v rfl rfl rfl (Kw.R_assign rfl) ?_
            refine Kw.WL_v rfl rfl rfl (Kw.R_assign rfl) ?_
            refine Kw.WL_nil ?_
            refine hK17 _ _ ?_; clear hK17 K17
            refine Kw.WC_seq (fun K23 hK23 => ?_)
            refine Kw.WC_seq (fun K24 hK24 => ?_)
            refine Kw.WC_region [some 54, some 55, some 56, some 57, some 58, some 59, some 60, some 61, some 62, some 63, some 64, some 65, some 66, some 67] rfl ?_
            refine Kw.WL_v rfl rfl rfl (Kw.R_move rfl) ?_
            refine Kw.WL_v rfl rfl rfl (Kw.R_nei (z := false) rfl rfl (decide_eq_true (by decide))) ?_
            refine Kw.WL_v rfl rfl rfl (Kw.R_move rfl) ?_
            refine Kw.WL_v rfl rfl rfl (Kw.R_move rfl) ?_
            refine Kw.WL_v rfl rfl rfl (Kw.R_move rfl) ?_
            refine Kw.WL_v rfl rfl rfl (Kw.R_move rfl) ?_
            refine Kw.WL_v rfl rfl rfl (Kw.R_move rfl) ?_
            refine Kw.WL_v rfl rfl rfl (Kw.R_add (c := ((k + 12 : Nat) : Int)) rfl rfl (by rw [Kw.wrap_i64 (by omega)]; omega)) ?_
            refine Kw.WL_v rfl rfl rfl (Kw.R_move rfl) ?_
            refine Kw.WL_v rfl rfl rfl (Kw.R_conv (c := n) Tryd.underlying55 Tryd.underlying3 rfl (Kw.wrap_i64 (by omega))) ?_
            refine Kw.WL_v rfl rfl rfl (Kw.R_add (c := (e : Int)) rfl rfl (by rw [Kw.wrap_i64 (by omega)]; omega)) ?_
            refine Kw.WL_v rfl rfl rfl (Kw.R_slices (i := k) (j := e) (r := (s.extract k e)) Tryd.underlying9 rfl ⟨_, rfl⟩ ⟨_, rfl⟩ (by omega) (by omega) (rfl)) ?_
            have hqe : s.extract k e = q.extract 0 (12 + n.toNat) := by rw [hq, ext_ext s k 0 (12 + n.toNat) (by omega), he]; rfl
            have hiff := eq_frm q n.toNat (by omega)
            rw [← hp, ← hqe] at hiff
            by_cases c25 : (frm (s.extract (k + 12) e)) = (s.extract k e)
            ·
              refine Kw.WL_v rfl rfl rfl (Kw.R_nes (z := false) rfl rfl (decide_eq_true c25)) ?_
              refine Kw.WL_v rfl rfl rfl (Kw.R_pickf rfl rfl) ?_
              refine Kw.WL_nil ?_
              refine hK24 _ _ ?_; clear hK24 K24
              refine Kw.WC_sub (l' := [(1, .int .i64 (k : Int)), (8, .string (s.extract (k + 12) e)), (9, .string (frm (s.extract (k + 12) e))), (67, .bool false)]) (Kw.Sub.cons rfl (Kw.Sub.cons rfl (Kw.Sub.cons rfl (Kw.Sub.cons rfl Kw.Sub.nil)))) ?_
              refine Kw.WC_false rfl ?_
              refine Kw.WC_skip ?_
              refine hK23 _ _ ?_; clear hK23 K23
              refine Kw.WC_seq (fun K26 hK26 => ?_)
              refine Kw.WC_region [some 68, some 69, some 70, some 71, some 72, some 4, some 5, some 6] rfl ?_
              refine Kw.WL_v rfl rfl rfl (Kw.R_move rfl) ?_
              refine Kw.WL_v rfl rfl rfl (Kw.R_move rfl) ?_
              refine Kw.WL_v rfl rfl rfl (Kw.R_move rfl) ?_
              refine Kw.WL_v rfl rfl rfl (Kw.R_lens Tryd.underlying9 rfl) ?_
              refine Kw.WL_v rfl rfl rfl (Kw.R_add (c := ((k + (12 + (s.extract (k + 12) e).size) : Nat) : Int)) rfl rfl (by rw [Kw.wrap_i64 (by rw [frm_size]; omega), frm_size]; omega)) ?_
              refine Kw.WL_v rfl rfl rfl (Kw.R_assign rfl) ?_
              refine Kw.WL_v rfl rfl rfl (Kw.R_assign rfl) ?_
              refine Kw.WL_v rfl rfl rfl (Kw.R_assign rfl) ?_
              refine Kw.WL_nil ?_
              refine hK26 _ _ ?_; clear hK26 K26
              refine Kw.WC_sub (l' := [(4, .string (s.extract (k + 12) e)), (5, .int .i64 ((k + (12 + (s.extract (k + 12) e).size) : Nat) : Int)), (6, .bool true)]) (Kw.Sub.cons rfl (Kw.Sub.cons rfl (Kw.Sub.cons rfl Kw.Sub.nil))) ?_
              refine Kw.WC_ret ?_
              have hc : cutV (s.extract k s.size) = some (s.extract (k + 12) e) := by
                rw [← hq, cut_last q (by omega) (by omega) (by omega), ← hn, ← hp, if_pos (by rw [show q.extract 0 12 = q.extract 0 12 from rfl]; exact hiff.1 (by assumption))]
              refine Kw.post_ret3 rfl rfl rfl rfl ⟨ret_val (getR_some (by omega) hc).symm, HB⟩
            ·
              refine Kw.WL_v rfl rfl rfl (Kw.R_nes (z := true) rfl rfl (decide_eq_false c25)) ?_
              refine Kw.WL_v rfl rfl rfl (Kw.R_pickf rfl rfl) ?_
              refine Kw.WL_nil ?_
              refine hK24 _ _ ?_; clear hK24 K24
              refine Kw.WC_sub (l' := [(1, .int .i64 (k : Int)), (8, .string (s.extract (k + 12) e)), (9, .string (frm (s.extract (k + 12) e))), (67, .bool true)]) (Kw.Sub.cons rfl (Kw.Sub.cons rfl (Kw.Sub.cons rfl (Kw.Sub.cons rfl Kw.Sub.nil)))) ?_
              refine Kw.WC_true rfl ?_
              refine Kw.WC_seq (fun K27 hK27 => ?_)
              refine Kw.WC_region [some 4, some 5, some 6] rfl ?_
              refine Kw.WL_v rfl rfl rfl (Kw.R_assign rfl) ?_
              refine Kw.WL_v rfl rfl rfl (Kw.R_assign rfl) ?_
              refine Kw.WL_v rfl rfl rfl (Kw.R_assign rfl) ?_
              refine Kw.WL_nil ?_
              refine hK27 _ _ ?_; clear hK27 K27
              refine Kw.WC_ret ?_
              refine Kw.QR_then ?_; clear hK23 K23
              first
              | exact Kw.post_ret3 rfl rfl rfl rfl ⟨ret_val (getR_out (by omega)).symm, HB⟩
              | exact Kw.post_ret3 rfl rfl rfl rfl ⟨ret_val (getR_none (by omega) (by rw [← hq]; exact cut_no2 q (by omega))).symm, HB⟩
              | exact Kw.post_ret3 rfl rfl rfl rfl ⟨ret_val (getR_none (by omega) (by rw [← hq]; exact cut_no3 q (by omega))).symm, HB⟩
              | exact Kw.post_ret3 rfl rfl rfl rfl ⟨ret_val (getR_none (by omega) (by rw [← hq, cut_last q (by omega) (by omega) (by omega), ← hn, ← hp, if_neg (fun h => (by assumption : ¬ _) (hiff.2 h))])).symm, HB⟩
              | (obtain ⟨k, rfl⟩ : ∃ k : Nat, a = (k : Int) := ⟨a.toNat, by omega⟩; exact Kw.post_ret3 rfl rfl rfl rfl ⟨ret_val (getR_none (by omega) (cut_no1 _ (by rw [ByteArray.size_extract]; omega))).symm, HB⟩)

set_option maxRecDepth 100000 in
set_option maxHeartbeats 4000000 in
theorem refwhole_c (s : ByteArray) (hs : s.size ≤ 1000000) (w : World) : Calls Tryd.prog 37 #[.string s] w (Kw.Back fun v w' => (∃ vl, v = .tuple #[vl, .int .i64 ((wholeV s).2 : Int)] ∧ Kw.Own w' w.heap.size 9 1 vl (wholeV s).1.length (strsL (wholeV s).1)) ∧ Below w.heap.size w w') := by
  have HB : Below w.heap.size w w := Below.refl _ _
  refine Kw.enter Tryd.func37 rfl Tryd.ntmps37 rfl rfl ?_
  refine Kw.WC_seq (fun K1 hK1 => ?_)
  refine Kw.WC_region [some 2, some 3] rfl ?_
  refine Kw.WL_v rfl rfl rfl (Kw.R_assign rfl) ?_
  refine Kw.WL_v rfl rfl rfl (Kw.R_assign rfl) ?_
  refine Kw.WL_nil ?_
  refine hK1 _ _ ?_; clear hK1 K1
  refine Kw.WC_seq (fun K2 hK2 => ?_)
  refine Kw.WC_region [some 4] rfl ?_
  refine Kw.WL_v rfl rfl rfl (Kw.R_assign rfl) ?_
  refine Kw.WL_nil ?_
  refine hK2 _ _ ?_; clear hK2 K2
  refine Kw.WC_seq (fun K3 hK3 => ?_)
  refine Kw.WC_region [some 5] rfl ?_
  refine Kw.WL_v rfl rfl rfl (Kw.R_assign rfl) ?_
  refine Kw.WL_nil ?_
  refine hK3 _ _ ?_; clear hK3 K3
  refine Kw.WC_block ?_
  refine Kw.WC_loop (ι := Value × Nat × List ByteArray) (fun (q : Value × Nat × List ByteArray) (ww : World) => match q with | ⟨v, c, L⟩ => WSt s L c ∧ Kw.Own ww w.heap.size 9 1 v L.length (strsL L) ∧ Below w.heap.size w ww) (fun (q : Value × Nat × List ByteArray) => match q with | ⟨v, c, L⟩ => [(0, .string s), (4, v), (5, .int .i64 (c : Int))]) (fun (q : Value × Nat × List ByteArray) => match q with | ⟨v, c, L⟩ => s.size - c) (.slice none 0 0, 0, []) ⟨WSt.zero s, (Kw.Own.nil _ _ _ _), HB⟩ (Kw.Sub.cons rfl (Kw.Sub.cons rfl (Kw.Sub.cons rfl Kw.Sub.nil))) ?_
  clear HB
  rintro ⟨v, c, L⟩ w4 ⟨hW, O_v, HB⟩
  dsimp only at *
  refine Kw.WC_block ?_
  refine Kw.WC_seq (fun K5 hK5 => ?_)
  refine Kw.WC_region [some 10, some 11, some 12, some 9, some 13, some 14, some 15, some 6, some 7, some 8] rfl ?_
  refine Kw.WL_v rfl rfl rfl (Kw.R_move rfl) ?_
  refine Kw.WL_v rfl rfl rfl (Kw.R_move rfl) ?_
  have hWle := hW.le; have hWlen := hW.len
  rcases hcp : cutV (s.extract c s.size) with _ | p
  ·
    refine Kw.WL_callc rfl rfl rfl rfl F.cl36 rfl (by have kk := refget_c s hs (c : Int) (by omega) w4; rw [getR_none (by omega) hcp] at kk; exact kk) ?_; intro w6 bw6
    replace HB := Kw.Below.then HB (Nat.le_refl _) bw6
    replace O_v := O_v.call bw6
    clear bw6
    refine Kw.WL_v rfl rfl rfl (Kw.R_move rfl) ?_
    refine Kw.WL_v rfl rfl rfl (Kw.R_extract (v := .string ⟨#[]⟩) rfl rfl) ?_
    refine Kw.WL_v rfl rfl rfl (Kw.R_extract (v := .int .i64 0) rfl rfl) ?_
    refine Kw.WL_v rfl rfl rfl (Kw.R_extract (v := .bool false) rfl rfl) ?_
    refine Kw.WL_v rfl rfl rfl (Kw.R_assign rfl) ?_
    refine Kw.WL_v rfl rfl rfl (Kw.R_assign rfl) ?_
    refine Kw.WL_v rfl rfl rfl (Kw.R_assign rfl) ?_
    refine Kw.WL_nil ?_
    refine hK5 _ _ ?_; clear hK5 K5
    refine Kw.WC_sub (l' := [(0, .string s), (4, v), (5, .int .i64 (c : Int)), (6, .string ⟨#[]⟩), (7, .int .i64 0), (8, .bool false)]) (Kw.Sub.cons rfl (Kw.Sub.cons rfl (Kw.Sub.cons rfl (Kw.Sub.cons rfl (Kw.Sub.cons rfl (Kw.Sub.cons rfl Kw.Sub.nil)))))) ?_
    refine Kw.WC_seq (fun K7 hK7 => ?_)
    refine Kw.WC_seq (fun K8 hK8 => ?_)
    refine Kw.WC_region [some 16, some 17] rfl ?_
    refine Kw.WL_v rfl rfl rfl (Kw.R_move rfl) ?_
    refine Kw.WL_v rfl rfl rfl (Kw.R_not rfl rfl) ?_
    refine Kw.WL_nil ?_
    refine hK8 _ _ ?_; clear hK8 K8
    refine Kw.WC_true rfl ?_
    refine Kw.WC_seq (fun K9 hK9 => ?_)
    refine Kw.WC_region [some 18, some 19, some 2, some 3] rfl ?_
    refine Kw.WL_v rfl rfl rfl (Kw.R_move rfl) ?_
    refine Kw.WL_v rfl rfl rfl (Kw.R_move rfl) ?_
    refine Kw.WL_v rfl rfl rfl (Kw.R_assign rfl) ?_
    refine Kw.WL_v rfl rfl rfl (Kw.R_assign rfl) ?_
    refine Kw.WL_nil ?_
    refine hK9 _ _ ?_; clear hK9 K9
    refine Kw.WC_sub (l' := [(2, v), (3, .int .i64 (c : Int))]) (Kw.Sub.cons rfl (Kw.Sub.cons rfl Kw.Sub.nil)) ?_
    refine Kw.WC_ret ?_
    refine Kw.QR_then ?_; clear hK7 K7
    refine Kw.QR_block ?_
    refine Kw.QR_then ?_
    refine Kw.QR_block ?_
    have hE := hW.stop hcp
    exact Kw.post_ret2 rfl rfl rfl ⟨_, rfl, ⟨_, by rw [hE], by rw [hE]; exact O_v⟩, HB⟩
  ·
    have hz := cut_size hcp; rw [ByteArray.size_extract] at hz
    refine Kw.WL_callc rfl rfl rfl rfl F.cl36 rfl (by have kk := refget_c s hs (c : Int) (by omega) w4; rw [getR_some (by omega) hcp] at kk; exact kk) ?_; intro w10 bw10
    replace HB := Kw.Below.then HB (Nat.le_refl _) bw10
    replace O_v := O_v.call bw10
    clear bw10
    refine Kw.WL_v rfl rfl rfl (Kw.R_move rfl) ?_
    refine Kw.WL_v rfl rfl rfl (Kw.R_extract (v := .string p) rfl rfl) ?_
    refine Kw.WL_v rfl rfl rfl (Kw.R_extract (v := .int .i64 ((c + (12 + p.size) : Nat) : Int)) rfl rfl) ?_
    refine Kw.WL_v rfl rfl rfl (Kw.R_extract (v := .bool true) rfl rfl) ?_
    refine Kw.WL_v rfl rfl rfl (Kw.R_assign rfl) ?_
    refine Kw.WL_v rfl rfl rfl (Kw.R_assign rfl) ?_
    refine Kw.WL_v rfl rfl rfl (Kw.R_assign rfl) ?_
    refine Kw.WL_nil ?_
    refine hK5 _ _ ?_; clear hK5 K5
    refine Kw.WC_sub (l' := [(0, .string s), (4, v), (5, .int .i64 (c : Int)), (6, .string p), (7, .int .i64 ((c + (12 + p.size) : Nat) : Int)), (8, .bool true)]) (Kw.Sub.cons rfl (Kw.Sub.cons rfl (Kw.Sub.cons rfl (Kw.Sub.cons rfl (Kw.Sub.cons rfl (Kw.Sub.cons rfl Kw.Sub.nil)))))) ?_
    refine Kw.WC_seq (fun K11 hK11 => ?_)
    refine Kw.WC_seq (fun K12 hK12 => ?_)
    refine Kw.WC_region [some 16, some 17] rfl ?_
    refine Kw.WL_v rfl rfl rfl (Kw.R_move rfl) ?_
    refine Kw.WL_v rfl rfl rfl (Kw.R_not rfl rfl) ?_
    refine Kw.WL_nil ?_
    refine hK12 _ _ ?_; clear hK12 K12
    refine Kw.WC_false rfl ?_
    refine Kw.WC_skip ?_
    refine hK11 _ _ ?_; clear hK11 K11
    refine Kw.WC_region [some 20, some 21, some 22, some 23, some 24, some 4, some 5] rfl ?_
    refine Kw.WL_v rfl rfl rfl (Kw.R_move rfl) ?_
    refine Kw.WL_v rfl rfl rfl (Kw.R_move rfl) ?_
    obtain ⟨g13, w14, N_g13⟩ : ∃ b w2, Kw.Newb w10 b #[.string p] 9 w2 := ⟨_, _, rfl, rfl⟩
    refine Kw.WL_v rfl rfl rfl (Kw.R_buildSlice rfl (fun w => by kernel_rfl) N_g13) ?_
    have A_g13 : Kw.At w14 g13 #[.string p] 9 := N_g13.at_
    have D_v_g13 := O_v.ne_new N_g13; replace O_v := O_v.new N_g13
    have G_g13 := N_g13.ge HB (Nat.le_refl _); replace HB := N_g13.below HB (Nat.le_refl _); clear N_g13
    refine Kw.WL_append rfl rfl rfl rfl Tryd.underlying38 Tryd.underlying38 (.inr ⟨_, rfl⟩) F.sz9 F.by9 F.ze9 rfl O_v (Kw.News.row (news := [.string p]) A_g13 rfl rfl (by simp [Value.oneCell'])) (by unfold maxLen; omega) (by omega) (Nat.le_trans (Nat.le_refl _) HB.size) ?_; intro v23 w15 O_v23 R_v23
    have D_v23_g13 := R_v23.ne A_g13 D_v_g13; replace A_g13 := R_v23.keep A_g13 D_v_g13
    replace HB := R_v23.below HB (Nat.le_refl _) (fun g hg => O_v.ge hg); clear R_v23
    replace O_v23 : Kw.Own w15 w.heap.size 9 1 v23 ((L ++ [p]).length) (strsL (L ++ [p])) := by rw [← strsL_snoc, List.length_append]; exact O_v23
    clear O_v
    clear A_g13
    refine Kw.WL_v rfl rfl rfl (Kw.R_move rfl) ?_
    refine Kw.WL_v rfl rfl rfl (Kw.R_assign rfl) ?_
    refine Kw.WL_v rfl rfl rfl (Kw.R_assign rfl) ?_
    refine Kw.WL_nil ?_
    refine Kw.QN_block ?_
    refine Kw.QN_round ((v23, c + (12 + p.size), L ++ [p])) ⟨hW.next hcp, O_v23, HB⟩ (by dsimp only; omega) (Kw.Sub.cons rfl (Kw.Sub.cons rfl (Kw.Sub.cons rfl Kw.Sub.nil)))
end Go.Proofs.YtngkedoaijlnlaaDoor.Fn
