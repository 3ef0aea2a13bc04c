/- Plain words for SHA-256, with no program in sight: turning 32 bits down, a block's numbers, the eight numbers behind a block, a text filled up. No condition. -/
import Derived.Test.YtngkedoaijlnlaaDoorFn1
namespace Go.Proofs.YtngkedoaijlnlaaDoor.Fn
open Go Go.RowKit Go.Proofs.YtngkedoaijlnlaaDoorW.PrintWords Go.Proofs.YtngkedoaijlnlaaDoorW.PrintLast Go.Proofs.YtngkedoaijlnlaaDoorW.PrintMore

theorem w64 {x : Int} (h0 : -9223372036854775808 ≤ x) (h1 : x ≤ 9223372036854775807) : wrap64 x = x := by unfold wrap64; omega
theorem wu64 (x : Int) : IntKind.u64.wrap x = x % 18446744073709551616 := by simp [IntKind.wrap, IntKind.bits, IntKind.signed]
theorem wu64_of {x : Int} (h0 : 0 ≤ x) (h1 : x < 18446744073709551616) : IntKind.u64.wrap x = x := by rw [wu64]; omega
theorem or32 (i : Nat) (hi : i ≤ 32) (x y : Int) (h0 : 0 ≤ x) (hx : x % 2 ^ i = 0) (h1 : x < 4294967296) (h2 : 0 ≤ y) (h3 : y < 2 ^ i) : bits .or .u32 x y = x + y :=
  bits_join .u32 32 (by decide) (fun n a b => by rw [IntKind.wrap_u32]; simp at b; omega) i x y h0 hx (by simpa using h1) h2 h3 (by
    have : (2 : Int) ^ i ≤ 2 ^ 32 := by exact_mod_cast Nat.pow_le_pow_right (by decide : 0 < 2) hi
    omega)

/-- 32 bits turned down, j from 1 to 31. -/
def rotr (x : Int) (j : Nat) : Int := x / 2 ^ j + x * 2 ^ (32 - j) % 4294967296
theorem rotr_or (x : Int) (h : 0 ≤ x ∧ x < 4294967296) (j : Nat) (h1 : 1 ≤ j) (h2 : j ≤ 31) : bits .or .u32 (x * 2 ^ (32 - j) % 4294967296) (x / 2 ^ j) = rotr x j := by
  have e : (2 : Int) ^ j * 2 ^ (32 - j) = 4294967296 := by rw [← Int.pow_add, show j + (32 - j) = 32 from by omega]; rfl
  have hd : ((2 : Int) ^ (32 - j)) ∣ 4294967296 := by rw [← e]; exact Int.dvd_mul_left _ _
  have hp : (0 : Int) < 2 ^ j := Int.pow_pos (by decide)
  rw [or32 (32 - j) (by omega) _ _ (Int.emod_nonneg _ (by decide)) ?_ (Int.emod_lt_of_pos _ (by decide)) (Int.ediv_nonneg h.1 (by omega)) ?_]
  · unfold rotr; omega
  · rw [Int.emod_emod_of_dvd _ hd, Int.mul_emod_left]
  · exact Int.ediv_lt_of_lt_mul hp (by rw [Int.mul_comm]; omega)
theorem or_comm32 (a b : Int) : bits .or .u32 a b = bits .or .u32 b a := by unfold bits; simp only [BitVec.or_comm]
theorem rotr_or' (x : Int) (h : 0 ≤ x ∧ x < 4294967296) (j : Nat) (h1 : 1 ≤ j) (h2 : j ≤ 31) : bits .or .u32 (x / 2 ^ j) (x * 2 ^ (32 - j) % 4294967296) = rotr x j := by
  rw [or_comm32]; exact rotr_or x h j h1 h2
theorem rotr_range (x : Int) (h : 0 ≤ x ∧ x < 4294967296) (j : Nat) (h1 : 1 ≤ j) (h2 : j ≤ 31) : 0 ≤ rotr x j ∧ rotr x j < 4294967296 := by
  have := rotr_or x h j h1 h2
  have e : rotr x j = IntKind.u32.wrap (bits .or .u32 (x * 2 ^ (32 - j) % 4294967296) (x / 2 ^ j)) := by
    rw [← this]; unfold bits; simp [IntKind.wrap, IntKind.bits, IntKind.signed]
  rw [e, IntKind.wrap_u32]; omega
theorem and31 (x : Int) (h0 : 0 ≤ x) (h1 : x < 18446744073709551616) : bits .and .u64 x 31 = x % 32 := by
  have := bits_mask .u64 64 (by decide) (fun n a b => wu64_of a (by simpa using b)) 5 (by decide) x h0 (by simpa using h1)
  simpa using this
theorem right_f (x : Int) (h : 0 ≤ x ∧ x < 4294967296) (j : Nat) (h1 : 1 ≤ j) (h2 : j ≤ 31) : bits_Right.f x (j : Int) = some (rotr x j) := by
  unfold bits_Right.f bits_RotateLeft32.f
  rw [Int.tmod_eq_emod_of_nonneg (by omega), w64 (by omega) (by omega)]
  have e1 : bits .and .u64 (IntKind.u64.wrap (-((j : Int) % 32))) 31 = 32 - j := by rw [wu64, and31 _ (by omega) (by omega)]; omega
  rw [e1, if_pos (by omega), wu64_of (by omega) (by omega), if_pos (by omega)]
  have e2 : shl .u32 x (32 - (j : Int)) = x * 2 ^ (32 - j) % 4294967296 := by
    unfold shl; rw [show (32 - (j : Int)).toNat = 32 - j from by omega, Nat.min_eq_left (by show 32 - j ≤ 32; omega), IntKind.wrap_u32]
  have e3 : shr .u32 x (32 - (32 - (j : Int))) = x / 2 ^ j := by
    unfold shr; rw [show (32 - (32 - (j : Int))).toNat = j from by omega, Nat.min_eq_left (by show j ≤ 32; omega)]
  rw [e2, e3, rotr_or x h j h1 h2]; rfl

/-! ### Get, of four bytes -/
def getV (s : ByteArray) : Nat → Int → Int → Int
  | 0, n, _ => n
  | r + 1, n, i => getV s r ((n * 256 % 18446744073709551616 + bt s i % 18446744073709551616) % 18446744073709551616) (i + 1)
theorem get_loop (s : ByteArray) (m : Int) (hm : m ≤ s.size) (h8 : m ≤ 8) (r : Nat) : ∀ (n i : Int) (k : Nat), 0 ≤ i → i + r = m → r < k → bits_Get.l0 k s n m i = some (getV s r n i) := by
  induction r with
  | zero =>
    intro n i k h0 hi hk
    obtain ⟨k, rfl⟩ : ∃ q, k = q + 1 := ⟨k - 1, by omega⟩
    rw [bits_Get.l0, if_neg (by omega)]; rfl
  | succ r ih =>
    intro n i k h0 hi hk
    obtain ⟨k, rfl⟩ : ∃ q, k = q + 1 := ⟨k - 1, by omega⟩
    rw [bits_Get.l0, if_pos (by omega), if_pos h0, if_pos (by omega), wu64, wu64, wu64, w64 (by omega) (by omega), ih _ (i + 1) k (by omega) (by omega) (by omega)]; rfl
def getS (s : ByteArray) : Int := getV s (mn s.size 8).toNat 0 0
theorem mn8 (s : ByteArray) : 0 ≤ mn s.size 8 ∧ mn s.size 8 ≤ s.size ∧ mn s.size 8 ≤ 8 := by unfold mn; split <;> omega
theorem get_f (s : ByteArray) (k : Nat) : bits_Get.f (k + 10) s = some (getS s) := by
  have m := mn8 s
  exact get_loop s (mn s.size 8) m.2.1 m.2.2 _ 0 0 _ (by omega) (by omega) (by omega)

def word (b0 b1 b2 b3 : Int) : Int := ((b0 * 256 + b1) * 256 + b2) * 256 + b3
theorem get4 (s : ByteArray) (hs : s.size = 4) : getS s = word (bt s 0) (bt s 1) (bt s 2) (bt s 3) := by
  unfold getS
  have e : (mn (s.size : Int) 8).toNat = 4 := by rw [hs]; rfl
  rw [e]; simp only [getV]
  have b0 := bt_range s 0; have b1 := bt_range s 1; have b2 := bt_range s 2; have b3 := bt_range s 3
  simp only [Int.zero_add, Int.reduceAdd]
  unfold word
  omega
theorem word_range (s : ByteArray) (a b c d : Int) : 0 ≤ word (bt s a) (bt s b) (bt s c) (bt s d) ∧ word (bt s a) (bt s b) (bt s c) (bt s d) < 4294967296 := by
  have b0 := bt_range s a; have b1 := bt_range s b; have b2 := bt_range s c; have b3 := bt_range s d
  unfold word; omega

/-! ### A block -/
def xr (a b : Int) : Int := bits .xor .u32 a b
def an (a b : Int) : Int := bits .and .u32 a b
def s0 (x : Int) : Int := xr (xr (rotr x 7) (rotr x 18)) (x / 8)
def s1 (x : Int) : Int := xr (xr (rotr x 17) (rotr x 19)) (x / 1024)

end Go.Proofs.YtngkedoaijlnlaaDoor.Fn
