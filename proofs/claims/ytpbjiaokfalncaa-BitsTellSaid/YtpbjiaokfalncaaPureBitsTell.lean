/- BitsTell is true at every input: Put, Left, Right, Ones and Log answer as the document's do, at any numbers. No condition. -/
import Derived.Test.YtpbjiaokfalncaaPBitsTellx3
import Derived.Test.YtpbjiaokfalncaaBitsPlain
namespace Go.Proofs.Ytpbjiaokfalncaa.Pure
open Go Go.RowKit Go.Proofs.Ytpbjiaokfalncaa.BP Go.Proofs.Ytpbjiaokfalncaa.PBitsTell Go.Proofs.YtpbjiaokfalncaaW.PrintWords Go.Proofs.YtpbjiaokfalncaaW.PrintLast

def lenTab : ByteArray := (⟨#[0, 1, 2, 2, 3, 3, 3, 3, 4, 4, 4, 4, 4, 4, 4, 4, 5, 5, 5, 5, 5, 5, 5, 5, 5, 5, 5, 5, 5, 5, 5, 5, 6, 6, 6, 6, 6, 6, 6, 6, 6, 6, 6, 6, 6, 6, 6, 6, 6, 6, 6, 6, 6, 6, 6, 6, 6, 6, 6, 6, 6, 6, 6, 6, 7, 7, 7, 7, 7, 7, 7, 7, 7, 7, 7, 7, 7, 7, 7, 7, 7, 7, 7, 7, 7, 7, 7, 7, 7, 7, 7, 7, 7, 7, 7, 7, 7, 7, 7, 7, 7, 7, 7, 7, 7, 7, 7, 7, 7, 7, 7, 7, 7, 7, 7, 7, 7, 7, 7, 7, 7, 7, 7, 7, 7, 7, 7, 7, 8, 8, 8, 8, 8, 8, 8, 8, 8, 8, 8, 8, 8, 8, 8, 8, 8, 8, 8, 8, 8, 8, 8, 8, 8, 8, 8, 8, 8, 8, 8, 8, 8, 8, 8, 8, 8, 8, 8, 8, 8, 8, 8, 8, 8, 8, 8, 8, 8, 8, 8, 8, 8, 8, 8, 8, 8, 8, 8, 8, 8, 8, 8, 8, 8, 8, 8, 8, 8, 8, 8, 8, 8, 8, 8, 8, 8, 8, 8, 8, 8, 8, 8, 8, 8, 8, 8, 8, 8, 8, 8, 8, 8, 8, 8, 8, 8, 8, 8, 8, 8, 8, 8, 8, 8, 8, 8, 8, 8, 8, 8, 8, 8, 8, 8, 8, 8, 8, 8, 8, 8, 8, 8, 8, 8, 8, 8, 8]⟩ : ByteArray)
theorem len64_step (k : Nat) (x0 x2 : Int) : bits_Len64.j0 (k + 1) x0 x2 = if x0 ≥ 65536 then (if (x0 / 65536) ≥ 256 then (if 0 ≤ (((x0 / 65536) / 256) % 256) then (if (((x0 / 65536) / 256) % 256) < 256 then (some (wrap64 ((wrap64 ((wrap64 (x2 + 16)) + 8)) + (wrap64 (bt lenTab (((x0 / 65536) / 256) % 256)))))) else (none)) else (none)) else (if 0 ≤ ((x0 / 65536) % 256) then (if ((x0 / 65536) % 256) < 256 then (some (wrap64 ((wrap64 (x2 + 16)) + (wrap64 (bt lenTab ((x0 / 65536) % 256)))))) else (none)) else (none))) else (if x0 ≥ 256 then (if 0 ≤ ((x0 / 256) % 256) then (if ((x0 / 256) % 256) < 256 then (some (wrap64 ((wrap64 (x2 + 8)) + (wrap64 (bt lenTab ((x0 / 256) % 256)))))) else (none)) else (none)) else (if 0 ≤ ((x0) % 256) then (if ((x0) % 256) < 256 then (some (wrap64 (x2 + (wrap64 (bt lenTab ((x0) % 256)))))) else (none)) else (none))) := rfl
theorem len_tab : ∀ i : Fin 256, bt lenTab (i.1 : Int) = (bl 8 i.1 : Int) := by decide +kernel
theorem len_at (i : Int) (h0 : 0 ≤ i) (h1 : i < 256) : bt lenTab i = (bl 8 i.toNat : Int) := by
  have h := len_tab ⟨i.toNat, by omega⟩
  dsimp only at h
  rw [show ((i.toNat : Nat) : Int) = i from by omega] at h
  exact h

theorem w64c (j : Nat) (h : j ≤ 1000) : wrap64 (j : Int) = j := w64 (by omega) (by omega)

theorem len64_j (n : Nat) (c : Int) (hn : n < 4294967296) (hc : 0 ≤ c ∧ c ≤ 64) (k : Nat) : bits_Len64.j0 (k + 1) (n : Int) c = some (c + bl 32 n) := by
  rw [len64_step]
  have b8 : ∀ m, bl 8 m ≤ 8 := bl_le 8
  by_cases h1 : n ≥ 65536
  · rw [if_pos (by omega)]
    have e1 : bl 32 n = 16 + bl 16 (n / 65536) := by have := bl_add 16 16 n (by simpa using h1); simpa using this
    by_cases h2 : n / 65536 ≥ 256
    · rw [if_pos (by omega)]
      have e2 : bl 16 (n / 65536) = 8 + bl 8 (n / 65536 / 256) := by have := bl_add 8 8 (n / 65536) (by simpa using h2); simpa using this
      rw [if_pos (by omega), if_pos (by omega), len_at _ (by omega) (by omega), w64c _ (by have := b8 ((n : Int) / 65536 / 256 % 256).toNat; omega)]
      have e3 : ((n : Int) / 65536 / 256 % 256).toNat = n / 65536 / 256 := by omega
      rw [e3]; have := b8 (n / 65536 / 256)
      rw [w64 (x := c + 16) (by omega) (by omega), w64 (x := c + 16 + 8) (by omega) (by omega), w64 (by omega) (by omega), e1, e2]; congr 1; omega
    · rw [if_neg (by omega)]
      have e2 : bl 16 (n / 65536) = bl 8 (n / 65536) := bl_more 8 8 _ (by omega)
      rw [if_pos (by omega), if_pos (by omega), len_at _ (by omega) (by omega), w64c _ (by have := b8 ((n : Int) / 65536 % 256).toNat; omega)]
      have e3 : ((n : Int) / 65536 % 256).toNat = n / 65536 := by omega
      rw [e3]; have := b8 (n / 65536)
      rw [w64 (x := c + 16) (by omega) (by omega), w64 (by omega) (by omega), e1, e2]; congr 1; omega
  · rw [if_neg (by omega)]
    have e1 : bl 32 n = bl 16 n := bl_more 16 16 _ (by omega)
    by_cases h2 : n ≥ 256
    · rw [if_pos (by omega)]
      have e2 : bl 16 n = 8 + bl 8 (n / 256) := by have := bl_add 8 8 n (by simpa using h2); simpa using this
      rw [if_pos (by omega), if_pos (by omega), len_at _ (by omega) (by omega), w64c _ (by have := b8 ((n : Int) / 256 % 256).toNat; omega)]
      have e3 : ((n : Int) / 256 % 256).toNat = n / 256 := by omega
      rw [e3]; have := b8 (n / 256)
      rw [w64 (x := c + 8) (by omega) (by omega), w64 (by omega) (by omega), e1, e2]; congr 1; omega
    · rw [if_neg (by omega)]
      have e2 : bl 16 n = bl 8 n := bl_more 8 8 _ (by omega)
      rw [if_pos (by omega), if_pos (by omega), len_at _ (by omega) (by omega), w64c _ (by have := b8 ((n : Int) % 256).toNat; omega)]
      have e3 : ((n : Int) % 256).toNat = n := by omega
      rw [e3]; have := b8 n
      rw [w64 (by omega) (by omega), e1, e2]
theorem len64_f (n : Nat) (hn : n < 18446744073709551616) (k : Nat) : bits_Len64.f (k + 1) (n : Int) = some ((bl 64 n : Nat) : Int) := by
  unfold bits_Len64.f
  by_cases h1 : n ≥ 4294967296
  · rw [if_pos (by omega), show ((n : Int) / 4294967296) = ((n / 4294967296 : Nat) : Int) from by omega, len64_j _ _ (by omega) (by omega)]
    have e1 : bl 64 n = 32 + bl 32 (n / 4294967296) := by have := bl_add 32 32 n (by simpa using h1); simpa using this
    rw [e1]; congr 1
  · rw [if_neg (by omega), len64_j _ _ (by omega) (by omega), bl_more 32 32 _ (by omega)]; congr 1; omega
theorem mx0 (x : Int) : mx x 0 = (x.toNat : Int) := by unfold mx; split <;> omega
theorem log_f (x : Int) (hx : x ≤ 9223372036854775807) (k : Nat) : bits_Log.f (k + 1) x = some ((bl 64 x.toNat : Int) - 1) := by
  unfold bits_Log.f bits_Len.f
  rw [mx0, wu64_of (by omega) (by omega), len64_f _ (by omega)]
  simp only [Option.bind_some]
  have := bl_le 64 x.toNat
  rw [w64 (by omega) (by omega)]
theorem ones_f (x : Int) (hx : x ≤ 9223372036854775807) : bits_Ones.f x = some ((pc 64 x.toNat : Nat) : Int) := by
  unfold bits_Ones.f bits_OnesCount.f
  rw [mx0, wu64_of (by omega) (by omega)]
  have : bits_OnesCount64.f ((x.toNat : Nat) : Int) = some (ones64 ((x.toNat : Nat) : Int)) := rfl
  rw [this, ones64_eq _ (by omega)]; rfl
theorem turned_f (k : Nat) : speculumlaw01_turned.f (20 + k) = some true := at_rounds (g := fun k => speculumlaw01_turned.f k) speculumlaw01_turned.mono (Nat.le_add_right 20 k) (by decide +kernel)
/-! ### Put -/
theorem set_rep (r : Nat) (v : Int) (tail : List Int) : (List.replicate (r + 1) (0 : Int) ++ tail).set r v = List.replicate r 0 ++ (v :: tail) := by
  have h : List.replicate (r + 1) (0 : Int) ++ tail = List.replicate r 0 ++ (0 :: tail) := by rw [List.replicate_succ', List.append_assoc]; rfl
  rw [h, List.set_append]; simp
theorem put_loop (size : Int) (h0 : 1 ≤ size) (h8 : size ≤ 8) (r : Nat) : ∀ (x i : Int) (tail : List Int) (k : Nat), 0 ≤ x → i = size - r → 0 ≤ i → r + tail.length = size.toNat → r < k →
    bits_Put.l0 k x size (List.replicate r 0 ++ tail) size i = some (strOfNums (be r x ++ tail)) := by
  induction r with
  | zero =>
    intro x i tail k hx hi h hl hk
    obtain ⟨k, rfl⟩ : ∃ m, k = m + 1 := ⟨k - 1, by omega⟩
    simp only [bits_Put.l0]; rw [if_neg (by omega)]; rfl
  | succ r ih =>
    intro x i tail k hx hi h hl hk
    obtain ⟨k, rfl⟩ : ∃ m, k = m + 1 := ⟨k - 1, by omega⟩
    simp only [bits_Put.l0]
    have e : wrap64 (wrap64 (size - 1) - i) = (r : Int) := by rw [w64 (x := size - 1) (by omega) (by omega), w64 (by omega) (by omega)]; omega
    rw [if_pos (by omega), e, if_pos (by omega), if_pos (by rw [List.length_append, List.length_replicate]; omega), w64 (by omega) (by omega)]
    rw [Int.toNat_natCast, set_rep, ih (x / 256) (i + 1) _ k (by omega) (by omega) (by omega) (by simp; omega) (by omega)]
    simp only [be, List.append_assoc]; rfl
/-- What Put tells. -/
def putV (x size : Int) : List Int := if 1 ≤ size ∧ size ≤ 8 then be size.toNat x else []
theorem put_f (x size : Int) (hx : 0 ≤ x) (k : Nat) : bits_Put.f (k + 10) x size = some (strOfNums (putV x size)) := by
  unfold bits_Put.f putV
  by_cases h1 : size < 1
  · rw [if_pos h1, if_neg (by omega)]; simp only [bits_Put.j0]; rfl
  · rw [if_neg h1]
    by_cases h8 : size > 8
    · rw [if_neg (by omega), decide_eq_true h8]; simp only [bits_Put.j0]; rfl
    · rw [if_pos (by omega), decide_eq_false h8]; simp only [bits_Put.j0]
      rw [if_neg (by simp), if_pos (by omega), if_pos (by omega)]
      have := put_loop size (by omega) (by omega) size.toNat x 0 [] (k + 9) hx (by omega) (by omega) (by simp) (by omega)
      rw [List.append_nil, List.append_nil] at this
      exact this
theorem strOfNums_append (a b : List Int) : strOfNums a ++ strOfNums b = strOfNums (a ++ b) := by
  apply ByteArray.ext; simp [strOfNums, ByteArray.data_append]
theorem refPut_loop (size : Int) (h8 : size ≤ 8) (r : Nat) : ∀ (x i : Int) (tail : List Int) (k : Nat), 0 ≤ x → x < 18446744073709551616 → i = size - r → 0 ≤ i → tail.length + r ≤ 50 → r ≤ 8 → r < k →
    speculumref01_Put.l0 k x size (strOfNums tail) i = some (strOfNums (be r x ++ tail)) := by
  induction r with
  | zero =>
    intro x i tail k hx hx' hi h hl hr hk
    obtain ⟨k, rfl⟩ : ∃ m, k = m + 1 := ⟨k - 1, by omega⟩
    simp only [speculumref01_Put.l0]; rw [if_neg (by omega)]; rfl
  | succ r ih =>
    intro x i tail k hx hx' hi h hl hr hk
    obtain ⟨k, rfl⟩ : ∃ m, k = m + 1 := ⟨k - 1, by omega⟩
    simp only [speculumref01_Put.l0, Option.bind_some]
    rw [if_pos (by omega), if_pos (by omega), if_pos (by rw [strOfNums_size, strOfNums_size]; simp; omega), w64 (by omega) (by omega), strOfNums_append,
      Int.tdiv_eq_ediv_of_nonneg hx, Int.tmod_eq_emod_of_nonneg hx, wu64_of (by omega) (by omega)]
    rw [Int.emod_emod, ih (x / 256) (i + 1) _ k (by omega) (by omega) (by omega) (by omega) (by simp only [List.length_append, List.length_cons, List.length_nil]; omega) (by omega) (by omega)]
    simp only [be, List.append_assoc]
theorem refPut_f (x size : Int) (hx : 0 ≤ x) (hx' : x < 18446744073709551616) (k : Nat) : speculumref01_Put.f (k + 10) x size = some (strOfNums (putV x size)) := by
  unfold speculumref01_Put.f putV
  by_cases h : 1 ≤ size ∧ size ≤ 8
  · rw [if_pos h]
    have := refPut_loop size h.2 size.toNat x 0 [] (k + 10) hx hx' (by omega) (by omega) (by simp; omega) (by omega) (by omega)
    rw [List.append_nil] at this
    exact this
  · rw [if_neg h]
    rw [show k + 10 = (k + 9) + 1 from rfl]; simp only [speculumref01_Put.l0]
    by_cases g : 0 < size
    · rw [if_pos g, if_neg (by omega)]; rfl
    · rw [if_neg g]; rfl

/-! ### Left, Right -/
theorem and31 (x : Int) (h0 : 0 ≤ x) (h1 : x < 18446744073709551616) : bits .and .u64 x 31 = x % 32 := by
  have := bits_mask .u64 64 (by decide) (fun n a b => wu64_of a (by simpa using b)) 5 (by decide) x h0 (by simpa using h1)
  simpa using this
theorem tmod32 (k : Int) : -31 ≤ Int.tmod k 32 ∧ Int.tmod k 32 ≤ 31 ∧ Int.tmod k 32 % 32 = k % 32 := by
  rcases Int.le_total 0 k with h | h
  · rw [Int.tmod_eq_emod_of_nonneg h]; omega
  · obtain ⟨j, rfl⟩ : ∃ j, k = -j := ⟨-k, by omega⟩
    rw [Int.neg_tmod, Int.tmod_eq_emod_of_nonneg (by omega)]; omega
theorem rotate_f (x t : Int) (hx : 0 ≤ x ∧ x < 4294967296) : bits_RotateLeft32.f x t = some (turn x t) := by
  unfold bits_RotateLeft32.f
  have e1 : bits .and .u64 (IntKind.u64.wrap t) 31 = t % 32 := by rw [wu64, and31 _ (by omega) (by omega)]; omega
  rw [e1, if_pos (by omega), wu64_of (x := 32 - t % 32) (by omega) (by omega), if_pos (by omega)]
  obtain ⟨s, hs, hs'⟩ : ∃ s : Nat, t % 32 = s ∧ s < 32 := ⟨(t % 32).toNat, by omega, by omega⟩
  have e2 : shl .u32 x (s : Int) = (x * 2 ^ s) % 4294967296 := by unfold shl; rw [IntKind.wrap_u32, Int.toNat_natCast, Nat.min_eq_left (by show s ≤ 32; omega)]
  have e3 : shr .u32 x (32 - (s : Int)) = x / 2 ^ (32 - s) := by unfold shr; rw [show (32 - (s : Int)).toNat = 32 - s from by omega, Nat.min_eq_left (by show 32 - s ≤ 32; omega)]
  rw [hs, e2, e3, rotl_or x hx s hs']
  unfold turn
  rw [hs, Int.toNat_natCast, iter_rot x hx s (by omega)]
theorem turn_mod (x a b : Int) (h : a % 32 = b % 32) : turn x a = turn x b := by unfold turn; rw [h]
theorem left_f (x k : Int) (hx : 0 ≤ x ∧ x < 4294967296) : bits_Left.f x k = some (turn x k) := by
  unfold bits_Left.f
  have t := tmod32 k
  rw [rotate_f x _ hx]; simp only [Option.bind_some]
  rw [turn_mod x _ k t.2.2]
theorem right_f (x k : Int) (hx : 0 ≤ x ∧ x < 4294967296) : bits_Right.f x k = some (turn x (-k)) := by
  unfold bits_Right.f
  have t := tmod32 k
  rw [w64 (by omega) (by omega), rotate_f x _ hx]; simp only [Option.bind_some]
  rw [turn_mod x _ (-k) (by omega)]

theorem refLeft_loop (r : Nat) : ∀ (x t i : Int) (k : Nat), (0 ≤ x ∧ x < 4294967296) → i + r = t → 0 ≤ i → t ≤ 40 → r < k → speculumref01_Left.l0 k x t i = some (iter r x) := by
  induction r with
  | zero =>
    intro x t i k hx hi h0 ht hk
    obtain ⟨k, rfl⟩ : ∃ m, k = m + 1 := ⟨k - 1, by omega⟩
    simp only [speculumref01_Left.l0]; rw [if_neg (by omega)]; rfl
  | succ r ih =>
    intro x t i k hx hi h0 ht hk
    obtain ⟨k, rfl⟩ : ∃ m, k = m + 1 := ⟨k - 1, by omega⟩
    simp only [speculumref01_Left.l0]; rw [if_pos (by omega), w64 (by omega) (by omega)]
    have e : (((x * 2) % 4294967296) + ((Int.tdiv x 2147483648) % 4294967296)) % 4294967296 = stp x := by
      rw [Int.tdiv_eq_ediv_of_nonneg hx.1]; unfold stp; omega
    rw [e]
    exact ih (stp x) t (i + 1) k (stp_range hx) (by omega) (by omega) (by omega) (by omega)
theorem refLeft_f (x t : Int) (hx : 0 ≤ x ∧ x < 4294967296) (k : Nat) : speculumref01_Left.f (k + 40) x t = some (turn x t) := by
  unfold speculumref01_Left.f
  have m := tmod32 t
  have go : ∀ u : Int, 0 ≤ u → u < 32 → u % 32 = t % 32 → speculumref01_Left.j0 (k + 40) x u = some (turn x t) := by
    intro u h0 h1 h2
    rw [show k + 40 = (k + 39) + 1 from rfl]; simp only [speculumref01_Left.j0]
    rw [refLeft_loop u.toNat x u 0 _ hx (by omega) (by omega) (by omega) (by omega)]
    unfold turn; rw [← h2]; congr 2; omega
  by_cases h : Int.tmod t 32 < 0
  · rw [if_pos h, w64 (by omega) (by omega)]; exact go _ (by omega) (by omega) (by omega)
  · rw [if_neg h]; exact go _ (by omega) (by omega) (by omega)
theorem refRight_f (x t : Int) (hx : 0 ≤ x ∧ x < 4294967296) (k : Nat) : speculumref01_Right.f (k + 40) x t = some (turn x (-t)) := by
  unfold speculumref01_Right.f
  have m := tmod32 t
  rw [w64 (by omega) (by omega), refLeft_f x _ hx]; simp only [Option.bind_some]
  rw [turn_mod x _ (-t) (by omega)]

/-! ### Ones, Log: the document's -/
theorem refOnes_loop (b : Nat) : ∀ (n : Nat) (c : Int) (k : Nat), n < 2 ^ b → n < 9223372036854775808 → b ≤ 64 → 0 ≤ c → c ≤ 100000 - b → b < k → speculumref01_Ones.l0 k (n : Int) c = some (c + pc b n) := by
  induction b with
  | zero =>
    intro n c k hn hn' hb h0 h1 hk
    obtain ⟨k, rfl⟩ : ∃ m, k = m + 1 := ⟨k - 1, by omega⟩
    have e : n = 0 := by simpa using hn
    subst e
    simp [speculumref01_Ones.l0, pc]
  | succ b ih =>
    intro n c k hn hn' hb h0 h1 hk
    obtain ⟨k, rfl⟩ : ∃ m, k = m + 1 := ⟨k - 1, by omega⟩
    rw [Nat.pow_succ] at hn
    simp only [speculumref01_Ones.l0, pc]
    by_cases e : n = 0
    · subst e
      have z : ∀ j, pc j 0 = 0 := by intro j; induction j with
        | zero => rfl
        | succ j ij => simp [pc, ij]
      rw [if_neg (by omega)]; simp [z]
    · rw [if_pos (by omega), Int.tdiv_eq_ediv_of_nonneg (by omega), Int.tmod_eq_emod_of_nonneg (by omega), w64 (by omega) (by omega), w64 (by omega) (by omega),
        show (n : Int) / 2 = ((n / 2 : Nat) : Int) from by omega, ih (n / 2) _ k (by omega) (by omega) (by omega) (by omega) (by omega) (by omega)]
      congr 1; omega
theorem refOnes_f (x : Int) (hx : -9223372036854775808 ≤ x ∧ x ≤ 9223372036854775807) (k : Nat) : speculumref01_Ones.f (k + 70) x = some ((pc 64 x.toNat : Nat) : Int) := by
  unfold speculumref01_Ones.f
  by_cases h : 0 ≤ x
  · obtain ⟨n, rfl⟩ : ∃ n : Nat, x = n := ⟨x.toNat, by omega⟩
    rw [refOnes_loop 64 n 0 _ (by simp; omega) (by omega) (by omega) (by omega) (by omega) (by omega)]; simp
  · rw [show k + 70 = (k + 69) + 1 from rfl]; simp only [speculumref01_Ones.l0]; rw [if_neg (by omega), show x.toNat = 0 from by omega]; rfl
theorem refLog_loop (b : Nat) : ∀ (n : Nat) (c : Int) (k : Nat), n < 2 ^ b → n < 9223372036854775808 → b ≤ 64 → -1 ≤ c → c ≤ 100000 - b → b < k → speculumref01_Log.l0 k (n : Int) c = some (c + bl b n) := by
  induction b with
  | zero =>
    intro n c k hn hn' hb h0 h1 hk
    obtain ⟨k, rfl⟩ : ∃ m, k = m + 1 := ⟨k - 1, by omega⟩
    have e : n = 0 := by simpa using hn
    subst e
    simp [speculumref01_Log.l0, bl]
  | succ b ih =>
    intro n c k hn hn' hb h0 h1 hk
    obtain ⟨k, rfl⟩ : ∃ m, k = m + 1 := ⟨k - 1, by omega⟩
    rw [Nat.pow_succ] at hn
    simp only [speculumref01_Log.l0, bl]
    by_cases e : n = 0
    · subst e
      rw [if_neg (by omega)]; simp
    · rw [if_pos (by omega), if_neg e, Int.tdiv_eq_ediv_of_nonneg (by omega), w64 (by omega) (by omega), w64 (by omega) (by omega),
        show (n : Int) / 2 = ((n / 2 : Nat) : Int) from by omega, ih (n / 2) _ k (by omega) (by omega) (by omega) (by omega) (by omega) (by omega)]
      congr 1; omega
theorem refLog_f (x : Int) (hx : -9223372036854775808 ≤ x ∧ x ≤ 9223372036854775807) (k : Nat) : speculumref01_Log.f (k + 70) x = some ((bl 64 x.toNat : Int) - 1) := by
  unfold speculumref01_Log.f
  by_cases h : 0 ≤ x
  · obtain ⟨n, rfl⟩ : ∃ n : Nat, x = n := ⟨x.toNat, by omega⟩
    rw [refLog_loop 64 n (-1) _ (by simp; omega) (by omega) (by omega) (by omega) (by omega) (by omega)]; simp; omega
  · rw [show k + 70 = (k + 69) + 1 from rfl]; simp only [speculumref01_Log.l0]; rw [if_neg (by omega), show x.toNat = 0 from by omega]; rfl

theorem wrap_range (x : Int) : -9223372036854775808 ≤ wrap64 x ∧ wrap64 x ≤ 9223372036854775807 := by unfold wrap64; omega

theorem tell_loop (n x s : Int) (hn : 0 ≤ n ∧ n < 18446744073709551616) (hx : 0 ≤ x ∧ x < 4294967296) (hs : -9223372036854775808 ≤ s ∧ s ≤ 9223372036854775807) (d : Nat) :
    ∀ (i : Int) (k : Nat), i + d = 34 → -1 ≤ i → speculumlaw01_BitsTell.l0 (k + d + 100) n x s i = some true := by
  induction d with
  | zero =>
    intro i k hi h0
    rw [show k + 0 + 100 = (k + 99) + 1 from rfl]; rw [speculumlaw01_BitsTell.l0]
    have w := wrap_range n
    rw [if_neg (by omega), show k + 99 = (k + 89) + 10 from rfl, put_f n s hn.1, refPut_f n s hn.1 hn.2]; simp only [Option.bind_some]
    rw [show k + 89 + 10 = (k + 59) + 40 from rfl, left_f x s hx, refLeft_f x s hx, right_f x s hx, refRight_f x s hx, show k + 59 + 40 = (k + 29) + 70 from rfl, ones_f _ w.2, refOnes_f _ w, refLog_f _ w, ones_f _ hs.2, refOnes_f _ hs, refLog_f _ hs,
      show k + 29 + 70 = (k + 98) + 1 from rfl, log_f _ w.2, log_f _ hs.2, show k + 98 + 1 = 20 + (k + 79) from by omega, turned_f]
    simp only [Option.bind_some, if_true]
  | succ d ih =>
    intro i k hi h0
    rw [show k + (d + 1) + 100 = (k + d + 100) + 1 from by omega]; rw [speculumlaw01_BitsTell.l0]
    rw [if_pos (by omega), show k + d + 100 = (k + d + 90) + 10 from rfl, put_f n i hn.1, refPut_f n i hn.1 hn.2]; simp only [Option.bind_some]
    rw [show k + d + 90 + 10 = (k + d + 60) + 40 from rfl, left_f x i hx, refLeft_f x i hx, right_f x i hx, refRight_f x i hx]
    simp only [Option.bind_some, if_true]
    rw [w64 (by omega) (by omega), show k + d + 60 + 40 = k + d + 100 from rfl]
    exact ih (i + 1) k (by omega) (by omega)

theorem BitsTell : speculumlaw01_BitsTell.Pure := by
  intro a0 a1 a2 b0 b1 b2
  have c0 : 0 ≤ a0 ∧ a0 < 18446744073709551616 := by simp [Lit.wf, IntKind.min, IntKind.max, IntKind.signed, IntKind.bits] at b0; omega
  have c1 : 0 ≤ a1 ∧ a1 < 4294967296 := by simp [Lit.wf, IntKind.min, IntKind.max, IntKind.signed, IntKind.bits] at b1; omega
  have c2 : -9223372036854775808 ≤ a2 ∧ a2 ≤ 9223372036854775807 := by simp [Lit.wf, IntKind.min, IntKind.max, IntKind.signed, IntKind.bits] at b2; omega
  exact ⟨0 + 35 + 100, tell_loop a0 a1 a2 c0 c1 c2 35 (-1) 0 (by omega) (by omega)⟩

end Go.Proofs.Ytpbjiaokfalncaa.Pure
