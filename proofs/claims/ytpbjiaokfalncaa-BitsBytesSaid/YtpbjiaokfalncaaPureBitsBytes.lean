/- BitsBytes is true at every input: Get, and each Bit, of any bytes are the document's. No condition. -/
import Derived.Test.YtpbjiaokfalncaaPBitsBytesx2
import Derived.Test.YtpbjiaokfalncaaBitsPlain
namespace Go.Proofs.Ytpbjiaokfalncaa.Pure
open Go Go.RowKit Go.Proofs.Ytpbjiaokfalncaa.BP Go.Proofs.Ytpbjiaokfalncaa.PBitsBytes Go.Proofs.YtpbjiaokfalncaaW.PrintWords Go.Proofs.YtpbjiaokfalncaaW.PrintLast

def lenTab : ByteArray := (⟨#[0, 1, 2, 2, 3, 3, 3, 3, 4, 4, 4, 4, 4, 4, 4, 4, 5, 5, 5, 5, 5, 5, 5, 5, 5, 5, 5, 5, 5, 5, 5, 5, 6, 6, 6, 6, 6, 6, 6, 6, 6, 6, 6, 6, 6, 6, 6, 6, 6, 6, 6, 6, 6, 6, 6, 6, 6, 6, 6, 6, 6, 6, 6, 6, 7, 7, 7, 7, 7, 7, 7, 7, 7, 7, 7, 7, 7, 7, 7, 7, 7, 7, 7, 7, 7, 7, 7, 7, 7, 7, 7, 7, 7, 7, 7, 7, 7, 7, 7, 7, 7, 7, 7, 7, 7, 7, 7, 7, 7, 7, 7, 7, 7, 7, 7, 7, 7, 7, 7, 7, 7, 7, 7, 7, 7, 7, 7, 7, 8, 8, 8, 8, 8, 8, 8, 8, 8, 8, 8, 8, 8, 8, 8, 8, 8, 8, 8, 8, 8, 8, 8, 8, 8, 8, 8, 8, 8, 8, 8, 8, 8, 8, 8, 8, 8, 8, 8, 8, 8, 8, 8, 8, 8, 8, 8, 8, 8, 8, 8, 8, 8, 8, 8, 8, 8, 8, 8, 8, 8, 8, 8, 8, 8, 8, 8, 8, 8, 8, 8, 8, 8, 8, 8, 8, 8, 8, 8, 8, 8, 8, 8, 8, 8, 8, 8, 8, 8, 8, 8, 8, 8, 8, 8, 8, 8, 8, 8, 8, 8, 8, 8, 8, 8, 8, 8, 8, 8, 8, 8, 8, 8, 8, 8, 8, 8, 8, 8, 8, 8, 8, 8, 8, 8, 8, 8, 8]⟩ : ByteArray)
theorem len64_step (k : Nat) (x0 x2 : Int) : bits_Len64.j0 (k + 1) x0 x2 = if x0 ≥ 65536 then (if (x0 / 65536) ≥ 256 then (if 0 ≤ (((x0 / 65536) / 256) % 256) then (if (((x0 / 65536) / 256) % 256) < 256 then (some (wrap64 ((wrap64 ((wrap64 (x2 + 16)) + 8)) + (wrap64 (bt lenTab (((x0 / 65536) / 256) % 256)))))) else (none)) else (none)) else (if 0 ≤ ((x0 / 65536) % 256) then (if ((x0 / 65536) % 256) < 256 then (some (wrap64 ((wrap64 (x2 + 16)) + (wrap64 (bt lenTab ((x0 / 65536) % 256)))))) else (none)) else (none))) else (if x0 ≥ 256 then (if 0 ≤ ((x0 / 256) % 256) then (if ((x0 / 256) % 256) < 256 then (some (wrap64 ((wrap64 (x2 + 8)) + (wrap64 (bt lenTab ((x0 / 256) % 256)))))) else (none)) else (none)) else (if 0 ≤ ((x0) % 256) then (if ((x0) % 256) < 256 then (some (wrap64 (x2 + (wrap64 (bt lenTab ((x0) % 256)))))) else (none)) else (none))) := rfl
theorem len_tab : ∀ i : Fin 256, bt lenTab (i.1 : Int) = (bl 8 i.1 : Int) := by decide +kernel
theorem len_at (i : Int) (h0 : 0 ≤ i) (h1 : i < 256) : bt lenTab i = (bl 8 i.toNat : Int) := by
  have h := len_tab ⟨i.toNat, by omega⟩
  dsimp only at h
  rw [show ((i.toNat : Nat) : Int) = i from by omega] at h
  exact h

theorem w64c (j : Nat) (h : j ≤ 1000) : wrap64 (j : Int) = j := w64 (by omega) (by omega)

theorem len64_j (n : Nat) (c : Int) (hn : n < 4294967296) (hc : 0 ≤ c ∧ c ≤ 64) (k : Nat) : bits_Len64.j0 (k + 1) (n : Int) c = some (c + bl 32 n) := by
  rw [len64_step]
  have b8 : ∀ m, bl 8 m ≤ 8 := bl_le 8
  by_cases h1 : n ≥ 65536
  · rw [if_pos (by omega)]
    have e1 : bl 32 n = 16 + bl 16 (n / 65536) := by have := bl_add 16 16 n (by simpa using h1); simpa using this
    by_cases h2 : n / 65536 ≥ 256
    · rw [if_pos (by omega)]
      have e2 : bl 16 (n / 65536) = 8 + bl 8 (n / 65536 / 256) := by have := bl_add 8 8 (n / 65536) (by simpa using h2); simpa using this
      rw [if_pos (by omega), if_pos (by omega), len_at _ (by omega) (by omega), w64c _ (by have := b8 ((n : Int) / 65536 / 256 % 256).toNat; omega)]
      have e3 : ((n : Int) / 65536 / 256 % 256).toNat = n / 65536 / 256 := by omega
      rw [e3]; have := b8 (n / 65536 / 256)
      rw [w64 (x := c + 16) (by omega) (by omega), w64 (x := c + 16 + 8) (by omega) (by omega), w64 (by omega) (by omega), e1, e2]; congr 1; omega
    · rw [if_neg (by omega)]
      have e2 : bl 16 (n / 65536) = bl 8 (n / 65536) := bl_more 8 8 _ (by omega)
      rw [if_pos (by omega), if_pos (by omega), len_at _ (by omega) (by omega), w64c _ (by have := b8 ((n : Int) / 65536 % 256).toNat; omega)]
      have e3 : ((n : Int) / 65536 % 256).toNat = n / 65536 := by omega
      rw [e3]; have := b8 (n / 65536)
      rw [w64 (x := c + 16) (by omega) (by omega), w64 (by omega) (by omega), e1, e2]; congr 1; omega
  · rw [if_neg (by omega)]
    have e1 : bl 32 n = bl 16 n := bl_more 16 16 _ (by omega)
    by_cases h2 : n ≥ 256
    · rw [if_pos (by omega)]
      have e2 : bl 16 n = 8 + bl 8 (n / 256) := by have := bl_add 8 8 n (by simpa using h2); simpa using this
      rw [if_pos (by omega), if_pos (by omega), len_at _ (by omega) (by omega), w64c _ (by have := b8 ((n : Int) / 256 % 256).toNat; omega)]
      have e3 : ((n : Int) / 256 % 256).toNat = n / 256 := by omega
      rw [e3]; have := b8 (n / 256)
      rw [w64 (x := c + 8) (by omega) (by omega), w64 (by omega) (by omega), e1, e2]; congr 1; omega
    · rw [if_neg (by omega)]
      have e2 : bl 16 n = bl 8 n := bl_more 8 8 _ (by omega)
      rw [if_pos (by omega), if_pos (by omega), len_at _ (by omega) (by omega), w64c _ (by have := b8 ((n : Int) % 256).toNat; omega)]
      have e3 : ((n : Int) % 256).toNat = n := by omega
      rw [e3]; have := b8 n
      rw [w64 (by omega) (by omega), e1, e2]
theorem len64_f (n : Nat) (hn : n < 18446744073709551616) (k : Nat) : bits_Len64.f (k + 1) (n : Int) = some ((bl 64 n : Nat) : Int) := by
  unfold bits_Len64.f
  by_cases h1 : n ≥ 4294967296
  · rw [if_pos (by omega), show ((n : Int) / 4294967296) = ((n / 4294967296 : Nat) : Int) from by omega, len64_j _ _ (by omega) (by omega)]
    have e1 : bl 64 n = 32 + bl 32 (n / 4294967296) := by have := bl_add 32 32 n (by simpa using h1); simpa using this
    rw [e1]; congr 1
  · rw [if_neg (by omega), len64_j _ _ (by omega) (by omega), bl_more 32 32 _ (by omega)]; congr 1; omega
theorem mx0 (x : Int) : mx x 0 = (x.toNat : Int) := by unfold mx; split <;> omega
theorem log_f (x : Int) (hx : x ≤ 9223372036854775807) (k : Nat) : bits_Log.f (k + 1) x = some ((bl 64 x.toNat : Int) - 1) := by
  unfold bits_Log.f bits_Len.f
  rw [mx0, wu64_of (by omega) (by omega), len64_f _ (by omega)]
  simp only [Option.bind_some]
  have := bl_le 64 x.toNat
  rw [w64 (by omega) (by omega)]
theorem ones_f (x : Int) (hx : x ≤ 9223372036854775807) : bits_Ones.f x = some ((pc 64 x.toNat : Nat) : Int) := by
  unfold bits_Ones.f bits_OnesCount.f
  rw [mx0, wu64_of (by omega) (by omega)]
  have : bits_OnesCount64.f ((x.toNat : Nat) : Int) = some (ones64 ((x.toNat : Nat) : Int)) := rfl
  rw [this, ones64_eq _ (by omega)]; rfl
theorem turned_f (k : Nat) : speculumlaw01_turned.f (20 + k) = some true := at_rounds (g := fun k => speculumlaw01_turned.f k) speculumlaw01_turned.mono (Nat.le_add_right 20 k) (by decide +kernel)
/-! ### Bit -/
theorem shr_at (c : Int) (j : Nat) (hj : j ≤ 8) : shr .u8 c (j : Int) = c / 2 ^ j := by
  unfold shr; rw [Int.toNat_natCast, Nat.min_eq_left (by show j ≤ 8; omega)]
/-- Bit i of bytes. -/
def bitV (s : ByteArray) (i : Int) : Int := if i < 0 then 0 else if i / 8 ≥ s.size then 0 else bt s (i / 8) / 2 ^ (7 - i % 8).toNat % 2
theorem and1 (x : Int) (h0 : 0 ≤ x) (h1 : x < 256) : bits .and .u8 x 1 = x % 2 := by
  have := bits_mask .u8 8 (by decide) wraps_u8 1 (by decide) x h0 (by simpa using h1)
  simpa using this
theorem div_small (c : Int) (j : Nat) (h0 : 0 ≤ c) (h1 : c < 256) : 0 ≤ c / 2 ^ j ∧ c / 2 ^ j < 256 :=
  ⟨Int.ediv_nonneg h0 (Int.le_of_lt (Int.pow_pos (by decide))), by
    have := Int.ediv_le_self (2 ^ j) h0; omega⟩
theorem bit_f (s : ByteArray) (i : Int) (hi : -9223372036854775808 ≤ i ∧ i ≤ 9223372036854775807) : bits_Bit.f s i = some (bitV s i) := by
  unfold bits_Bit.f bitV
  by_cases h : i < 0
  · rw [if_pos h, if_pos h]
  · rw [if_neg h, if_neg h, Int.tdiv_eq_ediv_of_nonneg (by omega), Int.tmod_eq_emod_of_nonneg (by omega), w64 (x := i / 8) (by omega) (by omega)]
    by_cases g : i / 8 ≥ (s.size : Int)
    · rw [if_pos g, if_pos g]
    · have b := bt_range s (i / 8)
      rw [if_neg g, if_neg g, if_pos (by omega), if_pos (by omega), w64 (x := 7 - i % 8) (by omega) (by omega), if_pos (by omega)]
      obtain ⟨j, hj, hj'⟩ : ∃ j : Nat, 7 - i % 8 = j ∧ j ≤ 8 := ⟨(7 - i % 8).toNat, by omega, by omega⟩
      rw [hj, shr_at _ j hj', Int.toNat_natCast]
      have d := div_small (bt s (i / 8)) j b.1 (by omega)
      rw [and1 _ d.1 d.2, w64 (by omega) (by omega)]
theorem refBit_loop (r : Nat) : ∀ (c j : Int) (k : Nat), 0 ≤ c → c < 256 → 0 ≤ j → j + r = 7 → r < k → speculumref01_Bit.l0 k c j = some (c / 2 ^ r % 2) := by
  induction r with
  | zero =>
    intro c j k c0 c1 j0 hj hk
    obtain ⟨k, rfl⟩ : ∃ m, k = m + 1 := ⟨k - 1, by omega⟩
    rw [speculumref01_Bit.l0, if_neg (by omega), Int.tmod_eq_emod_of_nonneg c0, w64 (by omega) (by omega)]; simp
  | succ r ih =>
    intro c j k c0 c1 j0 hj hk
    obtain ⟨k, rfl⟩ : ∃ m, k = m + 1 := ⟨k - 1, by omega⟩
    rw [speculumref01_Bit.l0, if_pos (by omega), Int.tdiv_eq_ediv_of_nonneg c0, w64 (by omega) (by omega), show c / 2 % 256 = c / 2 from by omega,
      ih (c / 2) (j + 1) k (by omega) (by omega) (by omega) (by omega) (by omega), Int.ediv_ediv_of_nonneg (by omega), Int.pow_succ, Int.mul_comm 2]
theorem refBit_f (s : ByteArray) (i : Int) (hi : -9223372036854775808 ≤ i ∧ i ≤ 9223372036854775807) (k : Nat) : speculumref01_Bit.f (k + 10) s i = some (bitV s i) := by
  unfold speculumref01_Bit.f bitV
  by_cases h : i < 0
  · rw [if_pos h, if_pos h, show k + 10 = (k + 9) + 1 from rfl, speculumref01_Bit.j0, if_pos rfl]
  · rw [if_neg h, if_neg h, Int.tdiv_eq_ediv_of_nonneg (by omega), w64 (x := i / 8) (by omega) (by omega), show k + 10 = (k + 9) + 1 from rfl, speculumref01_Bit.j0]
    by_cases g : i / 8 ≥ (s.size : Int)
    · rw [if_pos (decide_eq_true g), if_pos g]
    · have b := bt_range s (i / 8)
      rw [if_neg (by simpa using g), if_neg g, Int.tdiv_eq_ediv_of_nonneg (by omega), w64 (x := i / 8) (by omega) (by omega), if_pos (by omega), if_pos (by omega), Int.tmod_eq_emod_of_nonneg (by omega)]
      exact refBit_loop _ _ _ _ b.1 (by omega) (by omega) (by omega) (by omega)

/-! ### Get -/
def getV (s : ByteArray) : Nat → Int → Int → Int
  | 0, n, _ => n
  | r + 1, n, i => getV s r ((n * 256 % 18446744073709551616 + bt s i % 18446744073709551616) % 18446744073709551616) (i + 1)
theorem get_loop (s : ByteArray) (m : Int) (hm : m ≤ s.size) (h8 : m ≤ 8) (r : Nat) : ∀ (n i : Int) (k : Nat), 0 ≤ i → i + r = m → r < k → bits_Get.l0 k s n m i = some (getV s r n i) := by
  induction r with
  | zero =>
    intro n i k h0 hi hk
    obtain ⟨k, rfl⟩ : ∃ q, k = q + 1 := ⟨k - 1, by omega⟩
    rw [bits_Get.l0, if_neg (by omega)]; rfl
  | succ r ih =>
    intro n i k h0 hi hk
    obtain ⟨k, rfl⟩ : ∃ q, k = q + 1 := ⟨k - 1, by omega⟩
    rw [bits_Get.l0, if_pos (by omega), if_pos h0, if_pos (by omega), wu64, wu64, wu64, w64 (by omega) (by omega), ih _ (i + 1) k (by omega) (by omega) (by omega)]; rfl
theorem refGet_loop (s : ByteArray) (m : Int) (hm : m = mn s.size 8) (r : Nat) : ∀ (n i : Int) (k : Nat), 0 ≤ i → i + r = m → r < k → speculumref01_Get.l0 k s n i = some (getV s r n i) := by
  have e : mn s.size 8 = if (8 : Int) < s.size then 8 else (s.size : Int) := rfl
  induction r with
  | zero =>
    intro n i k h0 hi hk
    obtain ⟨k, rfl⟩ : ∃ q, k = q + 1 := ⟨k - 1, by omega⟩
    rw [speculumref01_Get.l0]
    by_cases g : i < (s.size : Int)
    · rw [if_pos g, if_neg (by rw [e] at hm; split at hm <;> omega)]; rfl
    · rw [if_neg g]; rfl
  | succ r ih =>
    intro n i k h0 hi hk
    obtain ⟨k, rfl⟩ : ∃ q, k = q + 1 := ⟨k - 1, by omega⟩
    have b : i < s.size ∧ i < 8 := by rw [e] at hm; split at hm <;> omega
    rw [speculumref01_Get.l0, if_pos b.1, if_pos b.2, if_pos h0, wu64, wu64, wu64, w64 (by omega) (by omega), ih _ (i + 1) k (by omega) (by omega) (by omega)]; rfl
def getS (s : ByteArray) : Int := getV s (mn s.size 8).toNat 0 0
theorem mn8 (s : ByteArray) : 0 ≤ mn s.size 8 ∧ mn s.size 8 ≤ s.size ∧ mn s.size 8 ≤ 8 := by unfold mn; split <;> omega
theorem get_f (s : ByteArray) (k : Nat) : bits_Get.f (k + 10) s = some (getS s) := by
  have m := mn8 s
  exact get_loop s (mn s.size 8) m.2.1 m.2.2 _ 0 0 _ (by omega) (by omega) (by omega)
theorem refGet_f (s : ByteArray) (k : Nat) : speculumref01_Get.f (k + 10) s = some (getS s) := by
  have m := mn8 s
  exact refGet_loop s _ rfl _ 0 0 _ (by omega) (by omega) (by omega)

theorem bytes_loop (s : ByteArray) (a : Int) (hs : s.size ≤ 200) (ha : -9223372036854775808 ≤ a ∧ a ≤ 9223372036854775807) (d : Nat) :
    ∀ (i : Int) (k : Nat), i + d = 8 * s.size + 2 → -1 ≤ i → speculumlaw01_BitsBytes.l0 (k + d + 100) s a i = some true := by
  induction d with
  | zero =>
    intro i k hi h0
    rw [show k + 0 + 100 = (k + 99) + 1 from rfl, speculumlaw01_BitsBytes.l0]
    rw [w64 (x := 8 * (s.size : Int)) (by omega) (by omega), w64 (by omega) (by omega), if_neg (by omega), show k + 99 = (k + 89) + 10 from rfl, get_f, refGet_f, bit_f s a ha, refBit_f s a ha, show k + 89 + 10 = 20 + (k + 79) from by omega, turned_f]
    simp only [Option.bind_some, if_true]
  | succ d ih =>
    intro i k hi h0
    rw [show k + (d + 1) + 100 = (k + d + 100) + 1 from by omega, speculumlaw01_BitsBytes.l0]
    rw [w64 (x := 8 * (s.size : Int)) (by omega) (by omega), w64 (x := 8 * (s.size : Int) + 1) (by omega) (by omega), if_pos (by omega), show k + d + 100 = (k + d + 90) + 10 from rfl, bit_f s i (by omega), refBit_f s i (by omega)]
    simp only [Option.bind_some, if_true]
    rw [w64 (by omega) (by omega), show k + d + 90 + 10 = k + d + 100 from rfl]
    exact ih (i + 1) k (by omega) (by omega)

theorem BitsBytes : speculumlaw01_BitsBytes.Pure := by
  intro s a _ b
  have c : -9223372036854775808 ≤ a ∧ a ≤ 9223372036854775807 := by simp [Lit.wf, IntKind.min, IntKind.max, IntKind.signed, IntKind.bits] at b; omega
  by_cases h : (s.size : Int) > 200
  · refine ⟨20 + 0, ?_⟩
    unfold speculumlaw01_BitsBytes.f
    rw [if_pos h, turned_f]; rfl
  · refine ⟨0 + (8 * s.size + 3) + 100, ?_⟩
    unfold speculumlaw01_BitsBytes.f
    rw [if_neg h]
    exact bytes_loop s a (by omega) c (8 * s.size + 3) (-1) 0 (by omega) (by omega)

end Go.Proofs.Ytpbjiaokfalncaa.Pure
