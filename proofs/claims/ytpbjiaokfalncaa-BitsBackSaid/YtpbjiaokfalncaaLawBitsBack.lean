/- BitsBack is true at every input: what is put is got; turned one way and back a number is as it was; turned by two numbers of places it is turned by both; its bits are as many. No condition. -/
import Derived.Test.YtpbjiaokfalncaaPBitsBackx2
import Derived.Test.YtpbjiaokfalncaaBitsPlain
import Derived.Outline
import Derived.Lib.Hide
import Derived.Deep.QuietTactic
import Derived.BigQuiet
import Derived.Test.YtpbjiaokfalncaaRows
import Derived.WalkKit
import Derived.ProofKit
import Derived.OpenShut
import Derived.ShutString
import Derived.ChangeOld
import Derived.Below
import Derived.Carry
import Derived.SizedLaws
namespace Go.Proofs.Ytpbjiaokfalncaa
open Go.ChangeShapes Go.WideShapes Go.ChangeAt Go Go.RowKit Go.Proofs.Ytpbjiaokfalncaa.BP Go.Proofs.Ytpbjiaokfalncaa.PBitsBack Go.Proofs.YtpbjiaokfalncaaW.PrintWords Go.Proofs.YtpbjiaokfalncaaW.PrintLast

def lenTab : ByteArray := (⟨#[0, 1, 2, 2, 3, 3, 3, 3, 4, 4, 4, 4, 4, 4, 4, 4, 5, 5, 5, 5, 5, 5, 5, 5, 5, 5, 5, 5, 5, 5, 5, 5, 6, 6, 6, 6, 6, 6, 6, 6, 6, 6, 6, 6, 6, 6, 6, 6, 6, 6, 6, 6, 6, 6, 6, 6, 6, 6, 6, 6, 6, 6, 6, 6, 7, 7, 7, 7, 7, 7, 7, 7, 7, 7, 7, 7, 7, 7, 7, 7, 7, 7, 7, 7, 7, 7, 7, 7, 7, 7, 7, 7, 7, 7, 7, 7, 7, 7, 7, 7, 7, 7, 7, 7, 7, 7, 7, 7, 7, 7, 7, 7, 7, 7, 7, 7, 7, 7, 7, 7, 7, 7, 7, 7, 7, 7, 7, 7, 8, 8, 8, 8, 8, 8, 8, 8, 8, 8, 8, 8, 8, 8, 8, 8, 8, 8, 8, 8, 8, 8, 8, 8, 8, 8, 8, 8, 8, 8, 8, 8, 8, 8, 8, 8, 8, 8, 8, 8, 8, 8, 8, 8, 8, 8, 8, 8, 8, 8, 8, 8, 8, 8, 8, 8, 8, 8, 8, 8, 8, 8, 8, 8, 8, 8, 8, 8, 8, 8, 8, 8, 8, 8, 8, 8, 8, 8, 8, 8, 8, 8, 8, 8, 8, 8, 8, 8, 8, 8, 8, 8, 8, 8, 8, 8, 8, 8, 8, 8, 8, 8, 8, 8, 8, 8, 8, 8, 8, 8, 8, 8, 8, 8, 8, 8, 8, 8, 8, 8, 8, 8, 8, 8, 8, 8, 8, 8]⟩ : ByteArray)
theorem len64_step (k : Nat) (x0 x2 : Int) : bits_Len64.j0 (k + 1) x0 x2 = if x0 ≥ 65536 then (if (x0 / 65536) ≥ 256 then (if 0 ≤ (((x0 / 65536) / 256) % 256) then (if (((x0 / 65536) / 256) % 256) < 256 then (some (wrap64 ((wrap64 ((wrap64 (x2 + 16)) + 8)) + (wrap64 (bt lenTab (((x0 / 65536) / 256) % 256)))))) else (none)) else (none)) else (if 0 ≤ ((x0 / 65536) % 256) then (if ((x0 / 65536) % 256) < 256 then (some (wrap64 ((wrap64 (x2 + 16)) + (wrap64 (bt lenTab ((x0 / 65536) % 256)))))) else (none)) else (none))) else (if x0 ≥ 256 then (if 0 ≤ ((x0 / 256) % 256) then (if ((x0 / 256) % 256) < 256 then (some (wrap64 ((wrap64 (x2 + 8)) + (wrap64 (bt lenTab ((x0 / 256) % 256)))))) else (none)) else (none)) else (if 0 ≤ ((x0) % 256) then (if ((x0) % 256) < 256 then (some (wrap64 (x2 + (wrap64 (bt lenTab ((x0) % 256)))))) else (none)) else (none))) := rfl
theorem len_tab : ∀ i : Fin 256, bt lenTab (i.1 : Int) = (bl 8 i.1 : Int) := by decide +kernel
theorem len_at (i : Int) (h0 : 0 ≤ i) (h1 : i < 256) : bt lenTab i = (bl 8 i.toNat : Int) := by
  have h := len_tab ⟨i.toNat, by omega⟩
  dsimp only at h
  rw [show ((i.toNat : Nat) : Int) = i from by omega] at h
  exact h

theorem w64c (j : Nat) (h : j ≤ 1000) : wrap64 (j : Int) = j := w64 (by omega) (by omega)

theorem len64_j (n : Nat) (c : Int) (hn : n < 4294967296) (hc : 0 ≤ c ∧ c ≤ 64) (k : Nat) : bits_Len64.j0 (k + 1) (n : Int) c = some (c + bl 32 n) := by
  rw [len64_step]
  have b8 : ∀ m, bl 8 m ≤ 8 := bl_le 8
  by_cases h1 : n ≥ 65536
  · rw [if_pos (by omega)]
    have e1 : bl 32 n = 16 + bl 16 (n / 65536) := by have := bl_add 16 16 n (by simpa using h1); simpa using this
    by_cases h2 : n / 65536 ≥ 256
    · rw [if_pos (by omega)]
      have e2 : bl 16 (n / 65536) = 8 + bl 8 (n / 65536 / 256) := by have := bl_add 8 8 (n / 65536) (by simpa using h2); simpa using this
      rw [if_pos (by omega), if_pos (by omega), len_at _ (by omega) (by omega), w64c _ (by have := b8 ((n : Int) / 65536 / 256 % 256).toNat; omega)]
      have e3 : ((n : Int) / 65536 / 256 % 256).toNat = n / 65536 / 256 := by omega
      rw [e3]; have := b8 (n / 65536 / 256)
      rw [w64 (x := c + 16) (by omega) (by omega), w64 (x := c + 16 + 8) (by omega) (by omega), w64 (by omega) (by omega), e1, e2]; congr 1; omega
    · rw [if_neg (by omega)]
      have e2 : bl 16 (n / 65536) = bl 8 (n / 65536) := bl_more 8 8 _ (by omega)
      rw [if_pos (by omega), if_pos (by omega), len_at _ (by omega) (by omega), w64c _ (by have := b8 ((n : Int) / 65536 % 256).toNat; omega)]
      have e3 : ((n : Int) / 65536 % 256).toNat = n / 65536 := by omega
      rw [e3]; have := b8 (n / 65536)
      rw [w64 (x := c + 16) (by omega) (by omega), w64 (by omega) (by omega), e1, e2]; congr 1; omega
  · rw [if_neg (by omega)]
    have e1 : bl 32 n = bl 16 n := bl_more 16 16 _ (by omega)
    by_cases h2 : n ≥ 256
    · rw [if_pos (by omega)]
      have e2 : bl 16 n = 8 + bl 8 (n / 256) := by have := bl_add 8 8 n (by simpa using h2); simpa using this
      rw [if_pos (by omega), if_pos (by omega), len_at _ (by omega) (by omega), w64c _ (by have := b8 ((n : Int) / 256 % 256).toNat; omega)]
      have e3 : ((n : Int) / 256 % 256).toNat = n / 256 := by omega
      rw [e3]; have := b8 (n / 256)
      rw [w64 (x := c + 8) (by omega) (by omega), w64 (by omega) (by omega), e1, e2]; congr 1; omega
    · rw [if_neg (by omega)]
      have e2 : bl 16 n = bl 8 n := bl_more 8 8 _ (by omega)
      rw [if_pos (by omega), if_pos (by omega), len_at _ (by omega) (by omega), w64c _ (by have := b8 ((n : Int) % 256).toNat; omega)]
      have e3 : ((n : Int) % 256).toNat = n := by omega
      rw [e3]; have := b8 n
      rw [w64 (by omega) (by omega), e1, e2]
theorem len64_f (n : Nat) (hn : n < 18446744073709551616) (k : Nat) : bits_Len64.f (k + 1) (n : Int) = some ((bl 64 n : Nat) : Int) := by
  unfold bits_Len64.f
  by_cases h1 : n ≥ 4294967296
  · rw [if_pos (by omega), show ((n : Int) / 4294967296) = ((n / 4294967296 : Nat) : Int) from by omega, len64_j _ _ (by omega) (by omega)]
    have e1 : bl 64 n = 32 + bl 32 (n / 4294967296) := by have := bl_add 32 32 n (by simpa using h1); simpa using this
    rw [e1]; congr 1
  · rw [if_neg (by omega), len64_j _ _ (by omega) (by omega), bl_more 32 32 _ (by omega)]; congr 1; omega
theorem mx0 (x : Int) : mx x 0 = (x.toNat : Int) := by unfold mx; split <;> omega
theorem log_f (x : Int) (hx : x ≤ 9223372036854775807) (k : Nat) : bits_Log.f (k + 1) x = some ((bl 64 x.toNat : Int) - 1) := by
  unfold bits_Log.f bits_Len.f
  rw [mx0, wu64_of (by omega) (by omega), len64_f _ (by omega)]
  simp only [Option.bind_some]
  have := bl_le 64 x.toNat
  rw [w64 (by omega) (by omega)]
theorem ones_f (x : Int) (hx : x ≤ 9223372036854775807) : bits_Ones.f x = some ((pc 64 x.toNat : Nat) : Int) := by
  unfold bits_Ones.f bits_OnesCount.f
  rw [mx0, wu64_of (by omega) (by omega)]
  have : bits_OnesCount64.f ((x.toNat : Nat) : Int) = some (ones64 ((x.toNat : Nat) : Int)) := rfl
  rw [this, ones64_eq _ (by omega)]; rfl
theorem turned_f (k : Nat) : speculumlaw01_turned.f (20 + k) = some true := at_rounds (g := fun k => speculumlaw01_turned.f k) speculumlaw01_turned.mono (Nat.le_add_right 20 k) (by decide +kernel)
/-! ### Put -/
theorem set_rep (r : Nat) (v : Int) (tail : List Int) : (List.replicate (r + 1) (0 : Int) ++ tail).set r v = List.replicate r 0 ++ (v :: tail) := by
  have h : List.replicate (r + 1) (0 : Int) ++ tail = List.replicate r 0 ++ (0 :: tail) := by rw [List.replicate_succ', List.append_assoc]; rfl
  rw [h, List.set_append]; simp
theorem put_loop (size : Int) (h0 : 1 ≤ size) (h8 : size ≤ 8) (r : Nat) : ∀ (x i : Int) (tail : List Int) (k : Nat), 0 ≤ x → i = size - r → 0 ≤ i → r + tail.length = size.toNat → r < k →
    bits_Put.l0 k x size (List.replicate r 0 ++ tail) size i = some (strOfNums (be r x ++ tail)) := by
  induction r with
  | zero =>
    intro x i tail k hx hi h hl hk
    obtain ⟨k, rfl⟩ : ∃ m, k = m + 1 := ⟨k - 1, by omega⟩
    simp only [bits_Put.l0]; rw [if_neg (by omega)]; rfl
  | succ r ih =>
    intro x i tail k hx hi h hl hk
    obtain ⟨k, rfl⟩ : ∃ m, k = m + 1 := ⟨k - 1, by omega⟩
    simp only [bits_Put.l0]
    have e : wrap64 (wrap64 (size - 1) - i) = (r : Int) := by rw [w64 (x := size - 1) (by omega) (by omega), w64 (by omega) (by omega)]; omega
    rw [if_pos (by omega), e, if_pos (by omega), if_pos (by rw [List.length_append, List.length_replicate]; omega), w64 (by omega) (by omega)]
    rw [Int.toNat_natCast, set_rep, ih (x / 256) (i + 1) _ k (by omega) (by omega) (by omega) (by simp; omega) (by omega)]
    simp only [be, List.append_assoc]; rfl
/-- What Put tells. -/
def putV (x size : Int) : List Int := if 1 ≤ size ∧ size ≤ 8 then be size.toNat x else []
theorem put_f (x size : Int) (hx : 0 ≤ x) (k : Nat) : bits_Put.f (k + 10) x size = some (strOfNums (putV x size)) := by
  unfold bits_Put.f putV
  by_cases h1 : size < 1
  · rw [if_pos h1, if_neg (by omega)]; simp only [bits_Put.j0]; rfl
  · rw [if_neg h1]
    by_cases h8 : size > 8
    · rw [if_neg (by omega), decide_eq_true h8]; simp only [bits_Put.j0]; rfl
    · rw [if_pos (by omega), decide_eq_false h8]; simp only [bits_Put.j0]
      rw [if_neg (by simp), if_pos (by omega), if_pos (by omega)]
      have := put_loop size (by omega) (by omega) size.toNat x 0 [] (k + 9) hx (by omega) (by omega) (by simp) (by omega)
      rw [List.append_nil, List.append_nil] at this
      exact this
/-! ### Left, Right -/
theorem and31 (x : Int) (h0 : 0 ≤ x) (h1 : x < 18446744073709551616) : bits .and .u64 x 31 = x % 32 := by
  have := bits_mask .u64 64 (by decide) (fun n a b => wu64_of a (by simpa using b)) 5 (by decide) x h0 (by simpa using h1)
  simpa using this
theorem tmod32 (k : Int) : -31 ≤ Int.tmod k 32 ∧ Int.tmod k 32 ≤ 31 ∧ Int.tmod k 32 % 32 = k % 32 := by
  rcases Int.le_total 0 k with h | h
  · rw [Int.tmod_eq_emod_of_nonneg h]; omega
  · obtain ⟨j, rfl⟩ : ∃ j, k = -j := ⟨-k, by omega⟩
    rw [Int.neg_tmod, Int.tmod_eq_emod_of_nonneg (by omega)]; omega
theorem rotate_f (x t : Int) (hx : 0 ≤ x ∧ x < 4294967296) : bits_RotateLeft32.f x t = some (turn x t) := by
  unfold bits_RotateLeft32.f
  have e1 : bits .and .u64 (IntKind.u64.wrap t) 31 = t % 32 := by rw [wu64, and31 _ (by omega) (by omega)]; omega
  rw [e1, if_pos (by omega), wu64_of (x := 32 - t % 32) (by omega) (by omega), if_pos (by omega)]
  obtain ⟨s, hs, hs'⟩ : ∃ s : Nat, t % 32 = s ∧ s < 32 := ⟨(t % 32).toNat, by omega, by omega⟩
  have e2 : shl .u32 x (s : Int) = (x * 2 ^ s) % 4294967296 := by unfold shl; rw [IntKind.wrap_u32, Int.toNat_natCast, Nat.min_eq_left (by show s ≤ 32; omega)]
  have e3 : shr .u32 x (32 - (s : Int)) = x / 2 ^ (32 - s) := by unfold shr; rw [show (32 - (s : Int)).toNat = 32 - s from by omega, Nat.min_eq_left (by show 32 - s ≤ 32; omega)]
  rw [hs, e2, e3, rotl_or x hx s hs']
  unfold turn
  rw [hs, Int.toNat_natCast, iter_rot x hx s (by omega)]
theorem turn_mod (x a b : Int) (h : a % 32 = b % 32) : turn x a = turn x b := by unfold turn; rw [h]
theorem left_f (x k : Int) (hx : 0 ≤ x ∧ x < 4294967296) : bits_Left.f x k = some (turn x k) := by
  unfold bits_Left.f
  have t := tmod32 k
  rw [rotate_f x _ hx]; simp only [Option.bind_some]
  rw [turn_mod x _ k t.2.2]
theorem right_f (x k : Int) (hx : 0 ≤ x ∧ x < 4294967296) : bits_Right.f x k = some (turn x (-k)) := by
  unfold bits_Right.f
  have t := tmod32 k
  rw [w64 (by omega) (by omega), rotate_f x _ hx]; simp only [Option.bind_some]
  rw [turn_mod x _ (-k) (by omega)]
/-! ### Get -/
def getV (s : ByteArray) : Nat → Int → Int → Int
  | 0, n, _ => n
  | r + 1, n, i => getV s r ((n * 256 % 18446744073709551616 + bt s i % 18446744073709551616) % 18446744073709551616) (i + 1)
theorem get_loop (s : ByteArray) (m : Int) (hm : m ≤ s.size) (h8 : m ≤ 8) (r : Nat) : ∀ (n i : Int) (k : Nat), 0 ≤ i → i + r = m → r < k → bits_Get.l0 k s n m i = some (getV s r n i) := by
  induction r with
  | zero =>
    intro n i k h0 hi hk
    obtain ⟨k, rfl⟩ : ∃ q, k = q + 1 := ⟨k - 1, by omega⟩
    rw [bits_Get.l0, if_neg (by omega)]; rfl
  | succ r ih =>
    intro n i k h0 hi hk
    obtain ⟨k, rfl⟩ : ∃ q, k = q + 1 := ⟨k - 1, by omega⟩
    rw [bits_Get.l0, if_pos (by omega), if_pos h0, if_pos (by omega), wu64, wu64, wu64, w64 (by omega) (by omega), ih _ (i + 1) k (by omega) (by omega) (by omega)]; rfl
def getS (s : ByteArray) : Int := getV s (mn s.size 8).toNat 0 0
theorem mn8 (s : ByteArray) : 0 ≤ mn s.size 8 ∧ mn s.size 8 ≤ s.size ∧ mn s.size 8 ≤ 8 := by unfold mn; split <;> omega
theorem get_f (s : ByteArray) (k : Nat) : bits_Get.f (k + 10) s = some (getS s) := by
  have m := mn8 s
  exact get_loop s (mn s.size 8) m.2.1 m.2.2 _ 0 0 _ (by omega) (by omega) (by omega)
theorem bt_str (l : List Int) (j : Nat) (h : j < l.length) : bt (strOfNums l) (j : Int) = ((l[j].toNat % 256 : Nat) : Int) := by
  unfold bt
  have hs : (j : Int).toNat < (strOfNums l).size := by rw [strOfNums_size]; simpa using h
  rw [dif_pos hs]
  simp only [Int.toNat_natCast]
  show (((strOfNums l).data[j]'_).toNat : Int) = _
  simp [strOfNums]

theorem put8 (n : Int) : putV n 8 = [n / 256 / 256 / 256 / 256 / 256 / 256 / 256 % 256, n / 256 / 256 / 256 / 256 / 256 / 256 % 256, n / 256 / 256 / 256 / 256 / 256 % 256, n / 256 / 256 / 256 / 256 % 256, n / 256 / 256 / 256 % 256, n / 256 / 256 % 256, n / 256 % 256, n % 256] := by
  unfold putV; rw [if_pos (by omega)]; rfl
theorem put8_at (n : Int) (i : Nat) (hi : i < 8) : bt (strOfNums (putV n 8)) (i : Int) = n / 256 ^ (7 - i) % 256 := by
  rw [bt_str _ i (by rw [put8]; simpa using hi)]
  have c : i = 0 ∨ i = 1 ∨ i = 2 ∨ i = 3 ∨ i = 4 ∨ i = 5 ∨ i = 6 ∨ i = 7 := by omega
  simp only [put8]
  rcases c with rfl | rfl | rfl | rfl | rfl | rfl | rfl | rfl <;> simp only [List.getElem_cons_zero, List.getElem_cons_succ, Nat.reduceSub, Int.reducePow] <;> omega
theorem getV_put (n : Int) (hn : 0 ≤ n ∧ n < 18446744073709551616) (r : Nat) : ∀ i : Nat, i + r = 8 → getV (strOfNums (putV n 8)) r (n / 256 ^ (8 - i)) (i : Int) = n := by
  induction r with
  | zero => intro i hi; obtain rfl : i = 8 := by omega
            simp [getV]
  | succ r ih =>
    intro i hi
    simp only [getV]
    rw [put8_at n i (by omega)]
    have e : n / 256 ^ (8 - i) = n / 256 ^ (7 - i) / 256 := by
      rw [show 8 - i = (7 - i) + 1 from by omega, Int.pow_succ, Int.ediv_ediv_of_nonneg (Int.le_of_lt (Int.pow_pos (by decide)))]
    have p : (0 : Int) ≤ n / 256 ^ (7 - i) ∧ n / 256 ^ (7 - i) ≤ n := ⟨Int.ediv_nonneg hn.1 (Int.le_of_lt (Int.pow_pos (by decide))), Int.ediv_le_self _ hn.1⟩
    have g := ih (i + 1) (by omega)
    rw [show 8 - (i + 1) = 7 - i from by omega] at g
    have e4 : ((i + 1 : Nat) : Int) = (i : Int) + 1 := by omega
    rw [e4] at g
    rw [e]
    generalize n / 256 ^ (7 - i) = v at *
    have : (v / 256 * 256 % 18446744073709551616 + v % 256 % 18446744073709551616) % 18446744073709551616 = v := by omega
    rw [this]; exact g
theorem getS_put (n : Int) (hn : 0 ≤ n ∧ n < 18446744073709551616) : getS (strOfNums (putV n 8)) = n := by
  unfold getS
  have s8 : (mn ((strOfNums (putV n 8)).size : Int) 8).toNat = 8 := by rw [strOfNums_size, put8]; rfl
  rw [s8]
  have g := getV_put n hn 8 0 (by omega)
  have z : n / 256 ^ (8 - 0) = 0 := by simp only [Nat.reduceSub, Int.reducePow]; omega
  rw [z] at g
  exact g

/-! ### as many bits -/
theorem pc_succ (b : Nat) : ∀ n, n < 2 ^ b → pc (b + 1) n = pc b n := by
  induction b with
  | zero => intro n h; have e : n = 0 := by simpa using h
            subst e; rfl
  | succ b ih => intro n h; rw [Nat.pow_succ] at h; rw [pc, ih (n / 2) (by omega)]; rfl
theorem pc_add2 (b : Nat) : ∀ m, m < 2 ^ b → pc (b + 1) (m + 2 ^ b) = pc b m + 1 := by
  induction b with
  | zero => intro m h; have e : m = 0 := by simpa using h
            subst e; rfl
  | succ b ih =>
    intro m h
    have h2 : 2 ^ (b + 1) = 2 * 2 ^ b := by rw [Nat.pow_succ, Nat.mul_comm]
    rw [h2] at h ⊢
    rw [pc, show (m + 2 * 2 ^ b) % 2 = m % 2 from by omega, show (m + 2 * 2 ^ b) / 2 = m / 2 + 2 ^ b from by omega, ih (m / 2) (by omega)]
    simp only [pc]; omega
theorem pc64_32 (n : Nat) (h : n < 4294967296) : pc 64 n = pc 32 n := by
  have e := pc_add 32 32 n
  have z : n / 2 ^ 32 = 0 := by simp only [Nat.reducePow]; omega
  have p0 : ∀ j, pc j 0 = 0 := by intro j; induction j with
    | zero => rfl
    | succ j ij => simp [pc, ij]
  rw [z, p0] at e
  rw [show (64 : Nat) = 32 + 32 from rfl, e]; omega
theorem pc_stp (x : Int) (h : 0 ≤ x ∧ x < 4294967296) : pc 64 (stp x).toNat = pc 64 x.toNat := by
  obtain ⟨n, rfl⟩ : ∃ n : Nat, x = n := ⟨x.toNat, by omega⟩
  have e : (stp (n : Int)).toNat = 2 * (n % 2147483648) + n / 2147483648 := by
    unfold stp
    by_cases b : n < 2147483648
    · have e1 : (n : Int) / 2147483648 = 0 := by omega
      have e2 : (n : Int) * 2 % 4294967296 = 2 * n := by omega
      rw [e1, e2]; omega
    · have e1 : (n : Int) / 2147483648 = 1 := by omega
      have e2 : (n : Int) * 2 % 4294967296 = 2 * n - 4294967296 := by omega
      rw [e1, e2]; omega
  rw [e, Int.toNat_natCast]
  have l1 : 2 * (n % 2147483648) + n / 2147483648 < 4294967296 := by omega
  rw [pc64_32 _ l1, pc64_32 _ (by omega)]
  have e1 : pc 32 (2 * (n % 2147483648) + n / 2147483648) = n / 2147483648 + pc 31 (n % 2147483648) := by
    rw [show (32 : Nat) = 31 + 1 from rfl, pc, show (2 * (n % 2147483648) + n / 2147483648) % 2 = n / 2147483648 from by omega, show (2 * (n % 2147483648) + n / 2147483648) / 2 = n % 2147483648 from by omega]
  rw [e1]
  by_cases b : n < 2147483648
  · rw [show n / 2147483648 = 0 from by omega, show n % 2147483648 = n from by omega]
    have := pc_succ 31 n (by simpa using b)
    rw [show (32 : Nat) = 31 + 1 from rfl, this]; omega
  · have := pc_add2 31 (n % 2147483648) (by simp only [Nat.reducePow]; omega)
    simp only [Nat.reducePow] at this
    rw [show n % 2147483648 + 2147483648 = n from by omega] at this
    rw [show n / 2147483648 = 1 from by omega, show (32 : Nat) = 31 + 1 from rfl, this]; omega
theorem pc_iter (t : Nat) : ∀ x : Int, 0 ≤ x ∧ x < 4294967296 → pc 64 (iter t x).toNat = pc 64 x.toNat := by
  induction t with
  | zero => intro x _; rfl
  | succ t ih => intro x h; simp only [iter]; rw [ih _ (stp_range h), pc_stp x h]
theorem pc_turn (x k : Int) (h : 0 ≤ x ∧ x < 4294967296) : pc 64 (turn x k).toNat = pc 64 x.toNat := pc_iter _ x h

/-! ### The walk -/
theorem bel_trans {w w1 w2 : World} (h : Below w.heap.size w w1) (k : Below w1.heap.size w1 w2) : Below w.heap.size w w2 := below_then h h.size k
theorem back_walk (n x k0 k1 : Int) (hn : 0 ≤ n ∧ n < 18446744073709551616) (hx : 0 ≤ x ∧ x < 4294967296) (hk0 : 0 ≤ k0 ∧ k0 ≤ 65535) (hk1 : 0 ≤ k1 ∧ k1 ≤ 65535) (w : World) :
    Calls Try.prog 7 #[.int .u64 n, .int .u32 x, .agg #[.int .u16 k0, .int .u16 k1]] w fun e w' => e = .returned (.bool true) ∧ Below w.heap.size w w' := by
  obtain ⟨L, hL⟩ : ∃ L, L = turn x k0 := ⟨_, rfl⟩
  obtain ⟨M, hM⟩ : ∃ M, M = turn L (-k1) := ⟨_, rfl⟩
  obtain ⟨S, hS⟩ : ∃ S, S = strOfNums (putV n 8) := ⟨_, rfl⟩
  obtain ⟨R, hR⟩ : ∃ R, R = turn x (-k0) := ⟨_, rfl⟩
  obtain ⟨C, hC⟩ : ∃ C, C = ((pc 64 x.toNat : Nat) : Int) := ⟨_, rfl⟩
  have rL : 0 ≤ L ∧ L < 4294967296 := by rw [hL]; exact turn_range _ _ hx
  have c16 : Hid (∀ w, Calls Try.prog 16 #[.int .u64 n, .int .i64 8] w fun e w' => e = .returned (.string S) ∧ Below w.heap.size w w') := Lib.hid fun w => bits_Put.calls 10 n 8 S w (by rw [hS]; exact put_f n 8 hn.1 0)
  have c29 : Hid (∀ w, Calls Try.prog 29 #[.string S] w fun e w' => e = .returned (.int .u64 n) ∧ Below w.heap.size w w') := Lib.hid fun w => bits_Get.calls 10 S n w (by have := get_f S 0; rw [hS, getS_put n hn, ← hS] at this; exact this)
  have c18a : Hid (∀ w, Calls Try.prog 18 #[.int .u32 x, .int .i64 k0] w fun e w' => e = .returned (.int .u32 L) ∧ Drawn0 w w') := Lib.hid fun w => bits_Left.calls x k0 L w (by rw [hL]; exact left_f x k0 hx)
  have c20a : Hid (∀ w, Calls Try.prog 20 #[.int .u32 L, .int .i64 k0] w fun e w' => e = .returned (.int .u32 x) ∧ Drawn0 w w') := Lib.hid fun w => bits_Right.calls L k0 x w (by rw [right_f L k0 rL, hL, turn_turn x _ _ hx, turn_zero x _ (by omega)])
  have c18b : Hid (∀ w, Calls Try.prog 18 #[.int .u32 L, .int .i64 (-k1)] w fun e w' => e = .returned (.int .u32 M) ∧ Drawn0 w w') := Lib.hid fun w => bits_Left.calls L (-k1) M w (by rw [hM]; exact left_f L _ rL)
  have c18c : Hid (∀ w, Calls Try.prog 18 #[.int .u32 x, .int .i64 (k0 + -k1)] w fun e w' => e = .returned (.int .u32 M) ∧ Drawn0 w w') := Lib.hid fun w => bits_Left.calls x _ M w (by rw [left_f x _ hx, hM, hL, turn_turn x _ _ hx])
  have c20b : Hid (∀ w, Calls Try.prog 20 #[.int .u32 x, .int .i64 k0] w fun e w' => e = .returned (.int .u32 R) ∧ Drawn0 w w') := Lib.hid fun w => bits_Right.calls x k0 R w (by rw [hR]; exact right_f x k0 hx)
  have c18d : Hid (∀ w, Calls Try.prog 18 #[.int .u32 x, .int .i64 (-k0)] w fun e w' => e = .returned (.int .u32 R) ∧ Drawn0 w w') := Lib.hid fun w => bits_Left.calls x _ R w (by rw [left_f x _ hx, hR])
  have c22a : Hid (∀ w, Calls Try.prog 22 #[.int .i64 L] w fun e w' => e = .returned (.int .i64 C) ∧ Below w.heap.size w w') := Lib.hid fun w => bits_Ones.calls L C w (by rw [ones_f L (by omega), hC, hL, pc_turn x k0 hx])
  have c22b : Hid (∀ w, Calls Try.prog 22 #[.int .i64 x] w fun e w' => e = .returned (.int .i64 C) ∧ Below w.heap.size w w') := Lib.hid fun w => bits_Ones.calls x C w (by rw [ones_f x (by omega), hC])
  have c18e : Hid (∀ w, Calls Try.prog 18 #[.int .u32 x, .int .i64 32] w fun e w' => e = .returned (.int .u32 x) ∧ Drawn0 w w') := Lib.hid fun w => bits_Left.calls x 32 x w (by rw [left_f x 32 hx, turn_zero x 32 (by omega)])
  have c26 : Hid (∀ w, Calls Try.prog 26 #[] w fun e w' => e = .returned (.bool true) ∧ Below w.heap.size w w') := Lib.hid fun w => speculumlaw01_turned.calls 20 true w (turned_f 0)
  clear hL hM hS hR hC
  go_enter Try.func7, Try.ntmps7
  go_wp2
  go_quiet (fail)
  go_wp2_with fail
  refine (c16.out _).mono ?_; rintro e w1 ⟨rfl, b1⟩
  go_wp2_with fail
  refine (c29.out _).mono ?_; rintro e w2 ⟨rfl, b2⟩
  go_wp2_with fail
  refine (c18a.out _).mono ?_; rintro e w3 ⟨rfl, b3⟩
  go_wp2_with fail
  refine (c20a.out _).mono ?_; rintro e w4 ⟨rfl, b4⟩
  go_wp2_with fail
  refine (c18a.out _).mono ?_; rintro e w5 ⟨rfl, b5⟩
  go_wp2_with fail
  refine (c18b.out _).mono ?_; rintro e w6 ⟨rfl, b6⟩
  go_wp2_with fail
  refine (c18c.out _).mono ?_; rintro e w7 ⟨rfl, b7⟩
  go_wp2_with fail
  refine (c20b.out _).mono ?_; rintro e w8 ⟨rfl, b8⟩
  go_wp2_with fail
  refine (c18d.out _).mono ?_; rintro e w9 ⟨rfl, b9⟩
  go_wp2_with fail
  refine (c18a.out _).mono ?_; rintro e w10 ⟨rfl, b10⟩
  go_wp2_with fail
  refine (c22a.out _).mono ?_; rintro e w11 ⟨rfl, b11⟩
  go_wp2_with fail
  refine (c22b.out _).mono ?_; rintro e w12 ⟨rfl, b12⟩
  go_wp2_with fail
  refine (c18e.out _).mono ?_; rintro e w13 ⟨rfl, b13⟩
  go_wp2_with fail
  refine (c26.out _).mono ?_; rintro e w14 ⟨rfl, b14⟩
  go_wp2_with fail
  go_ret
  have b0 := pw_below_drewN (below_alloc (Below.refl w.heap.size w) (.cells #[.int .u16 k0, .int .u16 k1] 42)) nq
  exact ⟨rfl, bel_trans (bel_trans (bel_trans (bel_trans (bel_trans (bel_trans (bel_trans (bel_trans (bel_trans (bel_trans (bel_trans (bel_trans (bel_trans (bel_trans b0 b1) b2) b3.below) b4.below) b5.below) b6.below) b7.below) b8.below) b9.below) b10.below) b11) b12) b13.below) b14⟩

theorem okWide_array {P : Program} {w : World} {r : Reach} {base : Nat} {t e : TypeId} {n : Nat} {v : Value} (ht : P.underlying t = some (.array n e)) (h : Value.okWide P w r base t v) : ∃ cs, v = .agg cs ∧ cs.size = P.cellsOf t := by
  simp only [Value.okWide, ht] at h
  obtain ⟨cs, h1, h2, _⟩ := h
  exact ⟨cs, h1, h2⟩
theorem Try.under42 : Try.prog.underlying 42 = some (.array 2 31) := by kernel_rfl
theorem Try.cells42' : Try.prog.cellsOf 42 = 2 := by kernel_rfl
theorem Try.cells31' : Try.prog.cellsOf 31 = 1 := by kernel_rfl
theorem Try.laidOut' : laidOutB Try.prog = true := by kernel_rfl
theorem Try.read42 : Try.prog.readableRec 42 = true := by kernel_rfl
theorem Try.lt42 : 42 < Try.prog.types.size := of_decide_eq_true (by kernel_rfl)

/-- Two numbers of 16 bits, by value. -/
theorem open_two {H : Type} {enc : TypeId × Value → H} {W : World} {v : Value} {d : DataW H} {p : List MemPlace} (hv : Value.okWide Try.prog W .any 0 42 v) (h : DataW.Trod enc Try.prog W 0 (fun _ => true) true 42 v d p) :
    ∃ k0 k1 : Int, v = .agg #[.int .u16 k0, .int .u16 k1] ∧ p = [] ∧ (0 ≤ k0 ∧ k0 ≤ 65535) ∧ (0 ≤ k1 ∧ k1 ≤ 65535) := by
  obtain ⟨cs, rfl, hsz⟩ := okWide_array Try.under42 hv
  rw [Try.cells42'] at hsz
  obtain ⟨fuel, hf⟩ := h
  obtain ⟨xs, m, rfl, hx, hl, hxl, hi⟩ := DataW.trod_array Try.under42 hf
  obtain ⟨c0, c1, rfl⟩ : ∃ c0 c1, cs = #[c0, c1] := by
    obtain ⟨l⟩ := cs
    match l, hsz with
    | [c0, c1], _ => exact ⟨c0, c1, rfl⟩
  rw [Try.cells31'] at hi
  obtain ⟨x0, x1, rfl⟩ : ∃ x0 x1, xs = [x0, x1] := by
    match xs, hxl with
    | [x0, x1], _ => exact ⟨x0, x1, rfl⟩
  have h0 := hi 0 (by omega)
  have h1 := hi 1 (by omega)
  simp [Value.cells] at h0 h1
  obtain ⟨a, e0, rfl, wa⟩ := DataW.trod_int Try.underlying31 h0
  obtain ⟨b, e1, rfl, wb⟩ := DataW.trod_int Try.underlying31 h1
  simp at e0 e1
  subst e0 e1
  simp only [Prod.mk.injEq] at hx
  refine ⟨a, b, rfl, by rw [hx.2]; rfl, ?_, ?_⟩
  · simp [Lit.wf, IntKind.min, IntKind.max, IntKind.signed, IntKind.bits] at wa; omega
  · simp [Lit.wf, IntKind.min, IntKind.max, IntKind.signed, IntKind.bits] at wb; omega

set_option maxRecDepth 100000 in
theorem back_lifted (os : Os) (started : os.Started) (H : Type) (enc : TypeId × Value → H) :
    ReturnsInHanded {} Try.checked os 7 .any (Rows.bitsBackSpec.pre6 enc Try.prog Try.f7 Rows.bitsBackRow.domain false) (Rows.bitsBackSpec.post enc Try.prog Try.f7 false true false false) := by
  refine returnsInHanded_of_change (C := Try.checked) (by kernel_rfl) started (by kernel_rfl) Try.func7
    (ChangeSpec.witness6 (enc := enc) (C := Try.checked) false ⟨#[], #[.int .u64 0, .int .u32 0, .agg #[.int .u16 0, .int .u16 0]], []⟩ 8 (by kernel_rfl) (by kernel_rfl) (by kernel_rfl) (by kernel_rfl)) ?_
  intro W base args ds gs before hval0 hW hcnd _
  have hval : ∀ (j : Nat) t v, Try.f7.params[j]? = some t → args[j]? = some v → Value.okWide Try.prog W .any base t v := hval0
  have hW' := hW
  obtain ⟨p, q, hA0, hV, rfl, hfz, hnd⟩ := hW
  have hA : DataW.TrodAll enc Try.prog W 0 (fun _ => true) true Try.f7.params.toList args.toList ds p := hA0
  rw [Try.params7] at hA hval
  obtain ⟨v0, v1, v2, d0, d1, d2, p0, p1, p2, rfl, rfl, rfl, h0, h1, h2⟩ := trodAll_three hA
  obtain ⟨rfl, rfl⟩ := trodVars_none hV
  obtain ⟨n, rfl, rfl, rfl, w0⟩ := open_int Try.underlying33 (hval 0 33 v0 rfl rfl) h0
  obtain ⟨x, rfl, rfl, rfl, w1⟩ := open_int Try.underlying34 (hval 1 34 v1 rfl rfl) h1
  obtain ⟨k0, k1, rfl, rfl, b0, b1⟩ := open_two (hval 2 42 v2 rfl rfl) h2
  clear hA0 hval0
  have c0 : 0 ≤ n ∧ n < 18446744073709551616 := by simp [Lit.wf, IntKind.min, IntKind.max, IntKind.signed, IntKind.bits] at w0; omega
  have c1 : 0 ≤ x ∧ x < 4294967296 := by simp [Lit.wf, IntKind.min, IntKind.max, IntKind.signed, IntKind.bits] at w1; omega
  refine (back_walk n x k0 k1 c0 c1 b0 b1 W).mono fun e W' ⟨he, bel⟩ => ?_
  subst he
  have t2 := Below.trod Try.laidOut' Try.read42 Try.lt42 h2 bel (by simp)
  exact ⟨_, rfl, _, _, _, [], [], [], hW', trodAll_mk1 (shut_bool Try.underlying4 _), trodAll_mk3 (shut_int Try.underlying33 w0) (shut_int Try.underlying34 w1) t2, rfl, bel.frame _, fun h => by cases h⟩
theorem bitsBack_over : Rows.bitsBackRow.holds Try.pinned (OpenSpec.ofChange Rows.bitsBackSpec) :=
  OpenClaim.holds_of_wide 7 Try.f7 rfl rfl rfl rfl rfl rfl rfl ⟨rfl, rfl, rfl, rfl, rfl⟩ rfl rfl rfl rfl rfl (by kernel_rfl) Try.func7 (by kernel_rfl)
    (of_decide_eq_true (by kernel_rfl)) (by unfold Func.isWrapper; first | (rw [if_pos (by decide +kernel)]; kernel_rfl) | (rw [if_neg (by decide +kernel)]; exact ⟨rfl, rfl⟩))
    (fun os started H enc _ => back_lifted os started H enc)
theorem bitsBack_holds : Rows.BitsBackSaid := bitsBack_over
#print axioms bitsBack_holds

end Go.Proofs.Ytpbjiaokfalncaa
