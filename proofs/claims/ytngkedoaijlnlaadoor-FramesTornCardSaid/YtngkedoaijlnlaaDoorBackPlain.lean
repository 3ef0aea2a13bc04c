/- Hex and Parse undo each other, in plain Lean. -/
import Derived.Lib.BufferWrite
import Derived.Lib.Hide
import Derived.Test.YtngkedoaijlnlaaDoorHashed
namespace Go.Proofs.YtngkedoaijlnlaaDoor.Fn
open Go.Proofs Go.RowKit Go.Proofs.YtngkedoaijlnlaaDoorW.PrintWords Go.Proofs.YtngkedoaijlnlaaDoorW.PrintLast Go.Proofs.YtngkedoaijlnlaaDoorW.PrintMore
attribute [local go_sem] max2_int min2_int max_two min_two max_three min_three max_four min_four
set_option linter.unusedVariables false
set_option linter.unusedSimpArgs false
def pairB (s : ByteArray) (j : Nat) : Int := 16 * digit (bt s ((2 * j : Nat) : Int)) + digit (bt s ((2 * j + 1 : Nat) : Int))
def pairsL (s : ByteArray) (j : Nat) : List Int := (List.range j).map (pairB s)
theorem or8 : ∀ a : Nat, a < 16 → ∀ b : Nat, b < 16 → bits .or .u8 ((a : Int) * 16 % 256) (b : Int) = 16 * (a : Int) + (b : Int) := by decide +kernel
theorem or8' (a b : Int) (h0 : 0 ≤ a) (h1 : a < 16) (h2 : 0 ≤ b) (h3 : b < 16) : bits .or .u8 (a * 16 % 256) b = 16 * a + b := by
  have := or8 a.toNat (by omega) b.toNat (by omega)
  rwa [Int.toNat_of_nonneg h0, Int.toNat_of_nonneg h2] at this
theorem pairs_step (s : ByteArray) (j : Nat) (hj : j < 32) (h1 : 0 ≤ digit (bt s ((2 * j : Nat) : Int))) (h2 : 0 ≤ digit (bt s ((2 * j + 1 : Nat) : Int)))
    (ih : parseL s (2 * j) = pairsL s j ++ List.replicate (32 - j) 0) : parseL s (2 * (j + 1)) = pairsL s (j + 1) ++ List.replicate (32 - (j + 1)) 0 := by
  have r1 := digit_range (bt s ((2 * j : Nat) : Int))
  have r2 := digit_range (bt s ((2 * j + 1 : Nat) : Int))
  have len : (pairsL s j).length = j := by unfold pairsL; simp
  have k1 : parseL s (2 * j + 1) = pairsL s j ++ (digit (bt s ((2 * j : Nat) : Int)) :: List.replicate (32 - (j + 1)) 0) := by
    rw [parseL, ih, show 2 * j / 2 = j by omega, List.getD_eq_getElem?_getD, List.getElem?_append_right (by omega), len, Nat.sub_self]
    rw [show 32 - j = (32 - (j + 1)) + 1 by omega, List.replicate_succ, List.set_append_right _ _ (by omega), len, Nat.sub_self]
    simp only [List.getElem?_cons_zero, Option.getD_some, List.set_cons_zero]
    have := or8' 0 (digit (bt s ((2 * j : Nat) : Int))) (by omega) (by omega) h1 (by omega)
    rw [this]; simp
  show parseL s (2 * j + 1 + 1) = _
  rw [parseL, k1, show (2 * j + 1) / 2 = j by omega, List.getD_eq_getElem?_getD, List.getElem?_append_right (by omega), len, Nat.sub_self]
  rw [List.set_append_right _ _ (by omega), len, Nat.sub_self]
  simp only [List.getElem?_cons_zero, Option.getD_some, List.set_cons_zero]
  rw [or8' _ _ h1 (by omega) h2 (by omega)]
  unfold pairsL
  rw [List.range_succ, List.map_append]
  simp [pairB]
theorem pairs_all (s : ByteArray) (j : Nat) (hj : j ≤ 32) (h : ∀ i : Nat, i < 2 * j → 0 ≤ digit (bt s (i : Int))) : parseL s (2 * j) = pairsL s j ++ List.replicate (32 - j) 0 := by
  induction j with
  | zero => rfl
  | succ j ih => exact pairs_step s j (by omega) (h _ (by omega)) (h _ (by omega)) (ih (by omega) (fun i hi => h i (by omega)))
theorem parse64 (s : ByteArray) (h : ∀ i : Nat, i < 64 → 0 ≤ digit (bt s (i : Int))) : parseL s 64 = pairsL s 32 := by
  have := pairs_all s 32 (by omega) h
  simpa using this
theorem pairsL_length (s : ByteArray) (j : Nat) : (pairsL s j).length = j := by unfold pairsL; simp
theorem pairsL_getD (s : ByteArray) (j i : Nat) (h : i < j) : (pairsL s j).getD i 0 = pairB s i := by
  unfold pairsL; rw [List.getD_eq_getElem?_getD]; simp [h]
theorem pairsL_bytes (s : ByteArray) (h : ∀ i : Nat, i < 64 → 0 ≤ digit (bt s (i : Int))) : Bytes (pairsL s 32) := by
  intro x hx
  unfold pairsL at hx
  rw [List.mem_map] at hx
  obtain ⟨j, hj, rfl⟩ := hx
  rw [List.mem_range] at hj
  have a := h (2 * j) (by omega)
  have b := h (2 * j + 1) (by omega)
  have r1 := digit_range (bt s ((2 * j : Nat) : Int))
  have r2 := digit_range (bt s ((2 * j + 1 : Nat) : Int))
  unfold pairB
  omega
theorem two_at (l : List UInt8) (a b : UInt8) (i : Nat) (h : l.length = 2 * i) : (l ++ [a] ++ [b])[2 * i]? = some a ∧ (l ++ [a] ++ [b])[2 * i + 1]? = some b := by
  constructor
  · rw [List.append_assoc, List.getElem?_append_right (by omega), h, Nat.sub_self]; rfl
  · rw [List.append_assoc, List.getElem?_append_right (by omega), h, show 2 * i + 1 - 2 * i = 1 by omega]; rfl
/-- The text's digits are the bytes' digits. -/
theorem hexL_at (h : List Int) (n i : Nat) (hi : i < n) : (hexL h n)[2 * i]? = some (hexd (h.getD i 0 / 16)) ∧ (hexL h n)[2 * i + 1]? = some (hexd (h.getD i 0 % 16)) := by
  induction n with
  | zero => omega
  | succ n ih =>
    have l := hexL_length h n
    rcases Nat.lt_or_ge i n with q | q
    · obtain ⟨a, b⟩ := ih q
      rw [hexL, List.append_assoc]
      rw [List.getElem?_append_left (by omega), List.getElem?_append_left (by omega)]
      exact ⟨a, b⟩
    · obtain rfl : i = n := by omega
      exact two_at _ _ _ _ l
theorem digit_hexd : ∀ n : Nat, n < 16 → digit ((hexd (n : Int)).toNat : Nat) = (n : Int) := by decide +kernel
theorem hexd_digit : ∀ n : Nat, n < 256 → 0 ≤ digit (n : Int) → hexd (digit (n : Int)) = n.toUInt8 := by decide +kernel
theorem hexS_size (h : List Int) : (hexS h).size = 64 := by
  show (hexL h 32).toArray.size = 64
  simp [hexL_length]
theorem bt_list (l : List UInt8) (i : Nat) (b : UInt8) (h : l[i]? = some b) : bt ⟨l.toArray⟩ (i : Int) = (b.toNat : Nat) := by
  obtain ⟨hl, e⟩ := List.getElem?_eq_some_iff.1 h
  unfold bt
  rw [dif_pos (by show (i : Int).toNat < l.toArray.size; simp; exact hl)]
  have : (ByteArray.mk l.toArray)[(i : Int).toNat]'(by show (i : Int).toNat < l.toArray.size; simp; exact hl) = b := by
    rw [← e]; rfl
  rw [this]
theorem digit_hexd' (x : Int) (h0 : 0 ≤ x) (h1 : x < 16) : digit ((hexd x).toNat : Nat) = x := by
  have := digit_hexd x.toNat (by omega)
  rwa [Int.toNat_of_nonneg h0] at this
theorem hexS_digits (h : List Int) (hn : Bytes h) (i : Nat) (hi : i < 32) : digit (bt (hexS h) ((2 * i : Nat) : Int)) = h.getD i 0 / 16 ∧ digit (bt (hexS h) ((2 * i + 1 : Nat) : Int)) = h.getD i 0 % 16 := by
  obtain ⟨a, b⟩ := hexL_at h 32 i hi
  have r := bytes_getD h hn i
  unfold hexS
  rw [bt_list _ _ _ a, bt_list _ _ _ b, digit_hexd' _ (by omega) (by omega), digit_hexd' _ (by omega) (by omega)]
  exact ⟨rfl, rfl⟩
theorem hexS_all (h : List Int) (hn : Bytes h) (i : Nat) (hi : i < 64) : 0 ≤ digit (bt (hexS h) (i : Int)) := by
  have d := hexS_digits h hn (i / 2) (by omega)
  have r := bytes_getD h hn (i / 2)
  rcases Nat.mod_two_eq_zero_or_one i with e | e
  · have q : 2 * (i / 2) = i := by omega
    rw [q] at d; rw [d.1]; omega
  · have q : 2 * (i / 2) + 1 = i := by omega
    rw [q] at d; rw [d.2]; omega
theorem parse_hex (h : List Int) (hl : h.length = 32) (hn : Bytes h) : parseV (hexS h) = some h := by
  rw [parse_some _ (hexS_size h) (fun i hi => hexS_all h hn i hi), parse64 _ (fun i hi => hexS_all h hn i hi)]
  congr 1
  apply List.ext_getElem?
  intro i
  rcases Nat.lt_or_ge i 32 with q | q
  · have d := hexS_digits h hn i q
    have r := bytes_getD h hn i
    have e : h[i]? = some (h.getD i 0) := by rw [List.getD_eq_getElem?_getD, List.getElem?_eq_getElem (by omega)]; rfl
    unfold pairsL
    rw [List.getElem?_map, List.getElem?_range q, e, Option.map_some, pairB, d.1, d.2]
    congr 1; omega
  · rw [List.getElem?_eq_none (by rw [pairsL_length]; omega), List.getElem?_eq_none (by omega)]
theorem bt_byte (s : ByteArray) (i : Nat) (h : i < s.size) : s.data.toList[i]? = some (bt s (i : Int)).toNat.toUInt8 := by
  unfold bt
  rw [dif_pos (by simpa using h)]
  have h2 : i < s.data.toList.length := by simpa using h
  rw [List.getElem?_eq_getElem h2]
  congr 1
  show _ = ((s.data[i]'h).toNat : Int).toNat.toUInt8
  simp
theorem hex_parse (s : ByteArray) (hs : s.size = 64) (h : ∀ i : Nat, i < 64 → 0 ≤ digit (bt s (i : Int))) : hexS (parseL s 64) = s := by
  have key : hexL (parseL s 64) 32 = s.data.toList := by
    apply List.ext_getElem?
    intro i
    rcases Nat.lt_or_ge i 64 with q | q
    · have d := hexL_at (parseL s 64) 32 (i / 2) (by omega)
      rw [parse64 s h, pairsL_getD s 32 (i / 2) (by omega)] at d
      have a := h (2 * (i / 2)) (by omega)
      have b := h (2 * (i / 2) + 1) (by omega)
      have r1 := digit_range (bt s ((2 * (i / 2) : Nat) : Int))
      have r2 := digit_range (bt s ((2 * (i / 2) + 1 : Nat) : Int))
      have e1 : pairB s (i / 2) / 16 = digit (bt s ((2 * (i / 2) : Nat) : Int)) := by unfold pairB; omega
      have e2 : pairB s (i / 2) % 16 = digit (bt s ((2 * (i / 2) + 1 : Nat) : Int)) := by unfold pairB; omega
      rw [e1, e2] at d
      rw [bt_byte s i (by omega)]
      have br := bt_range s (i : Int)
      have hd := hexd_digit (bt s (i : Int)).toNat (by omega)
      rw [Int.toNat_of_nonneg br.1] at hd
      rw [parse64 s h]
      rcases Nat.mod_two_eq_zero_or_one i with e | e
      · have q : 2 * (i / 2) = i := by omega
        rw [q] at d
        rw [d.1, hd (h i (by omega))]
      · have q : 2 * (i / 2) + 1 = i := by omega
        rw [q] at d
        rw [d.2, hd (h i (by omega))]
    · have : s.data.toList.length = 64 := by simpa using hs
      rw [List.getElem?_eq_none (by rw [hexL_length]; omega), List.getElem?_eq_none (by omega)]
  apply ByteArray.ext
  show (hexL (parseL s 64) 32).toArray = s.data
  rw [key]
theorem parse_back (s : ByteArray) (b : List Int) (h : parseV s = some b) : hexS b = s ∧ b.length = 32 ∧ Bytes b := by
  unfold parseV at h
  split at h
  · rename_i hc
    obtain ⟨h1, h2⟩ := hc
    have h3 := (allDig_iff s 64).1 h2
    injection h with h
    subst h
    exact ⟨hex_parse s h1 h3, parseL_length s 64, by rw [parse64 s h3]; exact pairsL_bytes s h3⟩
  · cases h
end Go.Proofs.YtngkedoaijlnlaaDoor.Fn
