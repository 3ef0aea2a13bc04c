/- BitsLog is true at every input: 2 to the Log of a number has one bit, is not above it and above half of it; its bytes have as many bits as it. No condition. -/
import Derived.Test.YtpbjiaokfalncaaPBitsLogx2
import Derived.Test.YtpbjiaokfalncaaBitsPlain
namespace Go.Proofs.Ytpbjiaokfalncaa.Pure
open Go Go.RowKit Go.Proofs.Ytpbjiaokfalncaa.BP Go.Proofs.Ytpbjiaokfalncaa.PBitsLog Go.Proofs.YtpbjiaokfalncaaW.PrintWords Go.Proofs.YtpbjiaokfalncaaW.PrintLast

def lenTab : ByteArray := (⟨#[0, 1, 2, 2, 3, 3, 3, 3, 4, 4, 4, 4, 4, 4, 4, 4, 5, 5, 5, 5, 5, 5, 5, 5, 5, 5, 5, 5, 5, 5, 5, 5, 6, 6, 6, 6, 6, 6, 6, 6, 6, 6, 6, 6, 6, 6, 6, 6, 6, 6, 6, 6, 6, 6, 6, 6, 6, 6, 6, 6, 6, 6, 6, 6, 7, 7, 7, 7, 7, 7, 7, 7, 7, 7, 7, 7, 7, 7, 7, 7, 7, 7, 7, 7, 7, 7, 7, 7, 7, 7, 7, 7, 7, 7, 7, 7, 7, 7, 7, 7, 7, 7, 7, 7, 7, 7, 7, 7, 7, 7, 7, 7, 7, 7, 7, 7, 7, 7, 7, 7, 7, 7, 7, 7, 7, 7, 7, 7, 8, 8, 8, 8, 8, 8, 8, 8, 8, 8, 8, 8, 8, 8, 8, 8, 8, 8, 8, 8, 8, 8, 8, 8, 8, 8, 8, 8, 8, 8, 8, 8, 8, 8, 8, 8, 8, 8, 8, 8, 8, 8, 8, 8, 8, 8, 8, 8, 8, 8, 8, 8, 8, 8, 8, 8, 8, 8, 8, 8, 8, 8, 8, 8, 8, 8, 8, 8, 8, 8, 8, 8, 8, 8, 8, 8, 8, 8, 8, 8, 8, 8, 8, 8, 8, 8, 8, 8, 8, 8, 8, 8, 8, 8, 8, 8, 8, 8, 8, 8, 8, 8, 8, 8, 8, 8, 8, 8, 8, 8, 8, 8, 8, 8, 8, 8, 8, 8, 8, 8, 8, 8, 8, 8, 8, 8, 8, 8]⟩ : ByteArray)
theorem len64_step (k : Nat) (x0 x2 : Int) : bits_Len64.j0 (k + 1) x0 x2 = if x0 ≥ 65536 then (if (x0 / 65536) ≥ 256 then (if 0 ≤ (((x0 / 65536) / 256) % 256) then (if (((x0 / 65536) / 256) % 256) < 256 then (some (wrap64 ((wrap64 ((wrap64 (x2 + 16)) + 8)) + (wrap64 (bt lenTab (((x0 / 65536) / 256) % 256)))))) else (none)) else (none)) else (if 0 ≤ ((x0 / 65536) % 256) then (if ((x0 / 65536) % 256) < 256 then (some (wrap64 ((wrap64 (x2 + 16)) + (wrap64 (bt lenTab ((x0 / 65536) % 256)))))) else (none)) else (none))) else (if x0 ≥ 256 then (if 0 ≤ ((x0 / 256) % 256) then (if ((x0 / 256) % 256) < 256 then (some (wrap64 ((wrap64 (x2 + 8)) + (wrap64 (bt lenTab ((x0 / 256) % 256)))))) else (none)) else (none)) else (if 0 ≤ ((x0) % 256) then (if ((x0) % 256) < 256 then (some (wrap64 (x2 + (wrap64 (bt lenTab ((x0) % 256)))))) else (none)) else (none))) := rfl
theorem len_tab : ∀ i : Fin 256, bt lenTab (i.1 : Int) = (bl 8 i.1 : Int) := by decide +kernel
theorem len_at (i : Int) (h0 : 0 ≤ i) (h1 : i < 256) : bt lenTab i = (bl 8 i.toNat : Int) := by
  have h := len_tab ⟨i.toNat, by omega⟩
  dsimp only at h
  rw [show ((i.toNat : Nat) : Int) = i from by omega] at h
  exact h

theorem w64c (j : Nat) (h : j ≤ 1000) : wrap64 (j : Int) = j := w64 (by omega) (by omega)

theorem len64_j (n : Nat) (c : Int) (hn : n < 4294967296) (hc : 0 ≤ c ∧ c ≤ 64) (k : Nat) : bits_Len64.j0 (k + 1) (n : Int) c = some (c + bl 32 n) := by
  rw [len64_step]
  have b8 : ∀ m, bl 8 m ≤ 8 := bl_le 8
  by_cases h1 : n ≥ 65536
  · rw [if_pos (by omega)]
    have e1 : bl 32 n = 16 + bl 16 (n / 65536) := by have := bl_add 16 16 n (by simpa using h1); simpa using this
    by_cases h2 : n / 65536 ≥ 256
    · rw [if_pos (by omega)]
      have e2 : bl 16 (n / 65536) = 8 + bl 8 (n / 65536 / 256) := by have := bl_add 8 8 (n / 65536) (by simpa using h2); simpa using this
      rw [if_pos (by omega), if_pos (by omega), len_at _ (by omega) (by omega), w64c _ (by have := b8 ((n : Int) / 65536 / 256 % 256).toNat; omega)]
      have e3 : ((n : Int) / 65536 / 256 % 256).toNat = n / 65536 / 256 := by omega
      rw [e3]; have := b8 (n / 65536 / 256)
      rw [w64 (x := c + 16) (by omega) (by omega), w64 (x := c + 16 + 8) (by omega) (by omega), w64 (by omega) (by omega), e1, e2]; congr 1; omega
    · rw [if_neg (by omega)]
      have e2 : bl 16 (n / 65536) = bl 8 (n / 65536) := bl_more 8 8 _ (by omega)
      rw [if_pos (by omega), if_pos (by omega), len_at _ (by omega) (by omega), w64c _ (by have := b8 ((n : Int) / 65536 % 256).toNat; omega)]
      have e3 : ((n : Int) / 65536 % 256).toNat = n / 65536 := by omega
      rw [e3]; have := b8 (n / 65536)
      rw [w64 (x := c + 16) (by omega) (by omega), w64 (by omega) (by omega), e1, e2]; congr 1; omega
  · rw [if_neg (by omega)]
    have e1 : bl 32 n = bl 16 n := bl_more 16 16 _ (by omega)
    by_cases h2 : n ≥ 256
    · rw [if_pos (by omega)]
      have e2 : bl 16 n = 8 + bl 8 (n / 256) := by have := bl_add 8 8 n (by simpa using h2); simpa using this
      rw [if_pos (by omega), if_pos (by omega), len_at _ (by omega) (by omega), w64c _ (by have := b8 ((n : Int) / 256 % 256).toNat; omega)]
      have e3 : ((n : Int) / 256 % 256).toNat = n / 256 := by omega
      rw [e3]; have := b8 (n / 256)
      rw [w64 (x := c + 8) (by omega) (by omega), w64 (by omega) (by omega), e1, e2]; congr 1; omega
    · rw [if_neg (by omega)]
      have e2 : bl 16 n = bl 8 n := bl_more 8 8 _ (by omega)
      rw [if_pos (by omega), if_pos (by omega), len_at _ (by omega) (by omega), w64c _ (by have := b8 ((n : Int) % 256).toNat; omega)]
      have e3 : ((n : Int) % 256).toNat = n := by omega
      rw [e3]; have := b8 n
      rw [w64 (by omega) (by omega), e1, e2]
theorem len64_f (n : Nat) (hn : n < 18446744073709551616) (k : Nat) : bits_Len64.f (k + 1) (n : Int) = some ((bl 64 n : Nat) : Int) := by
  unfold bits_Len64.f
  by_cases h1 : n ≥ 4294967296
  · rw [if_pos (by omega), show ((n : Int) / 4294967296) = ((n / 4294967296 : Nat) : Int) from by omega, len64_j _ _ (by omega) (by omega)]
    have e1 : bl 64 n = 32 + bl 32 (n / 4294967296) := by have := bl_add 32 32 n (by simpa using h1); simpa using this
    rw [e1]; congr 1
  · rw [if_neg (by omega), len64_j _ _ (by omega) (by omega), bl_more 32 32 _ (by omega)]; congr 1; omega
theorem mx0 (x : Int) : mx x 0 = (x.toNat : Int) := by unfold mx; split <;> omega
theorem log_f (x : Int) (hx : x ≤ 9223372036854775807) (k : Nat) : bits_Log.f (k + 1) x = some ((bl 64 x.toNat : Int) - 1) := by
  unfold bits_Log.f bits_Len.f
  rw [mx0, wu64_of (by omega) (by omega), len64_f _ (by omega)]
  simp only [Option.bind_some]
  have := bl_le 64 x.toNat
  rw [w64 (by omega) (by omega)]
theorem ones_f (x : Int) (hx : x ≤ 9223372036854775807) : bits_Ones.f x = some ((pc 64 x.toNat : Nat) : Int) := by
  unfold bits_Ones.f bits_OnesCount.f
  rw [mx0, wu64_of (by omega) (by omega)]
  have : bits_OnesCount64.f ((x.toNat : Nat) : Int) = some (ones64 ((x.toNat : Nat) : Int)) := rfl
  rw [this, ones64_eq _ (by omega)]; rfl
theorem turned_f (k : Nat) : speculumlaw01_turned.f (20 + k) = some true := at_rounds (g := fun k => speculumlaw01_turned.f k) speculumlaw01_turned.mono (Nat.le_add_right 20 k) (by decide +kernel)
/-! ### Put -/
theorem set_rep (r : Nat) (v : Int) (tail : List Int) : (List.replicate (r + 1) (0 : Int) ++ tail).set r v = List.replicate r 0 ++ (v :: tail) := by
  have h : List.replicate (r + 1) (0 : Int) ++ tail = List.replicate r 0 ++ (0 :: tail) := by rw [List.replicate_succ', List.append_assoc]; rfl
  rw [h, List.set_append]; simp
theorem put_loop (size : Int) (h0 : 1 ≤ size) (h8 : size ≤ 8) (r : Nat) : ∀ (x i : Int) (tail : List Int) (k : Nat), 0 ≤ x → i = size - r → 0 ≤ i → r + tail.length = size.toNat → r < k →
    bits_Put.l0 k x size (List.replicate r 0 ++ tail) size i = some (strOfNums (be r x ++ tail)) := by
  induction r with
  | zero =>
    intro x i tail k hx hi h hl hk
    obtain ⟨k, rfl⟩ : ∃ m, k = m + 1 := ⟨k - 1, by omega⟩
    simp only [bits_Put.l0]; rw [if_neg (by omega)]; rfl
  | succ r ih =>
    intro x i tail k hx hi h hl hk
    obtain ⟨k, rfl⟩ : ∃ m, k = m + 1 := ⟨k - 1, by omega⟩
    simp only [bits_Put.l0]
    have e : wrap64 (wrap64 (size - 1) - i) = (r : Int) := by rw [w64 (x := size - 1) (by omega) (by omega), w64 (by omega) (by omega)]; omega
    rw [if_pos (by omega), e, if_pos (by omega), if_pos (by rw [List.length_append, List.length_replicate]; omega), w64 (by omega) (by omega)]
    rw [Int.toNat_natCast, set_rep, ih (x / 256) (i + 1) _ k (by omega) (by omega) (by omega) (by simp; omega) (by omega)]
    simp only [be, List.append_assoc]; rfl
/-- What Put tells. -/
def putV (x size : Int) : List Int := if 1 ≤ size ∧ size ≤ 8 then be size.toNat x else []
theorem put_f (x size : Int) (hx : 0 ≤ x) (k : Nat) : bits_Put.f (k + 10) x size = some (strOfNums (putV x size)) := by
  unfold bits_Put.f putV
  by_cases h1 : size < 1
  · rw [if_pos h1, if_neg (by omega)]; simp only [bits_Put.j0]; rfl
  · rw [if_neg h1]
    by_cases h8 : size > 8
    · rw [if_neg (by omega), decide_eq_true h8]; simp only [bits_Put.j0]; rfl
    · rw [if_pos (by omega), decide_eq_false h8]; simp only [bits_Put.j0]
      rw [if_neg (by simp), if_pos (by omega), if_pos (by omega)]
      have := put_loop size (by omega) (by omega) size.toNat x 0 [] (k + 9) hx (by omega) (by omega) (by simp) (by omega)
      rw [List.append_nil, List.append_nil] at this
      exact this
/-! ### bits of what Put tells -/
theorem bt_str (l : List Int) (j : Nat) (h : j < l.length) : bt (strOfNums l) (j : Int) = ((l[j].toNat % 256 : Nat) : Int) := by
  unfold bt
  have hs : (j : Int).toNat < (strOfNums l).size := by rw [strOfNums_size]; simpa using h
  rw [dif_pos hs]
  simp only [Int.toNat_natCast]
  show (((strOfNums l).data[j]'_).toNat : Int) = _
  simp [strOfNums]
theorem put4 (n : Int) : putV n 4 = [n / 256 / 256 / 256 % 256, n / 256 / 256 % 256, n / 256 % 256, n % 256] := by
  unfold putV; rw [if_pos (by omega)]; rfl
theorem shr_at (c : Int) (j : Nat) (hj : j ≤ 8) : shr .u8 c (j : Int) = c / 2 ^ j := by
  unfold shr; rw [Int.toNat_natCast, Nat.min_eq_left (by show j ≤ 8; omega)]
theorem and1 (x : Int) (h0 : 0 ≤ x) (h1 : x < 256) : bits .and .u8 x 1 = x % 2 := by
  have := bits_mask .u8 8 (by decide) wraps_u8 1 (by decide) x h0 (by simpa using h1)
  simpa using this
theorem bit_put (n : Int) (hn : 0 ≤ n ∧ n < 4294967296) (i : Nat) (hi : i < 32) : bits_Bit.f (strOfNums (putV n 4)) (i : Int) = some (n / 2 ^ (31 - i) % 2) := by
  have sz : ((strOfNums (putV n 4)).size : Int) = 4 := by rw [strOfNums_size, put4]; rfl
  obtain ⟨j, hj⟩ : ∃ j : Nat, j = i / 8 := ⟨_, rfl⟩
  obtain ⟨r, hr⟩ : ∃ r : Nat, r = i % 8 := ⟨_, rfl⟩
  unfold bits_Bit.f
  rw [if_neg (by omega), Int.tdiv_eq_ediv_of_nonneg (by omega), Int.tmod_eq_emod_of_nonneg (by omega), w64 (x := (i : Int) / 8) (by omega) (by omega), sz, if_neg (by omega), if_pos (by omega), if_pos (by omega),
    w64 (x := 7 - (i : Int) % 8) (by omega) (by omega), if_pos (by omega)]
  have e1 : (i : Int) / 8 = (j : Int) := by omega
  have e2 : 7 - (i : Int) % 8 = ((7 - r : Nat) : Int) := by omega
  rw [e1, e2, shr_at _ _ (by omega), bt_str _ j (by rw [put4]; simp; omega)]
  have ei : i = 8 * j + r := by omega
  have cj : j = 0 ∨ j = 1 ∨ j = 2 ∨ j = 3 := by omega
  have cr : r = 0 ∨ r = 1 ∨ r = 2 ∨ r = 3 ∨ r = 4 ∨ r = 5 ∨ r = 6 ∨ r = 7 := by omega
  subst ei
  simp only [put4]
  rcases cj with rfl | rfl | rfl | rfl <;> rcases cr with rfl | rfl | rfl | rfl | rfl | rfl | rfl | rfl <;>
    (simp only [List.getElem_cons_zero, List.getElem_cons_succ, Nat.reduceAdd, Nat.reduceMul, Nat.reduceSub, Int.reducePow]
     rw [and1 _ (by omega) (by omega), w64 (by omega) (by omega)]
     congr 1; omega)

theorem log_loop (n : Nat) (hn : n < 4294967296) (k : Nat) (hk : k ≤ 31) (hlo : 2 ^ k ≤ n) (hhi : n < 2 ^ (k + 1)) (d : Nat) :
    ∀ (i : Nat) (q : Nat), i + d = 32 → speculumlaw01_BitsLog.l0 (q + d + 100) (n : Int) (k : Int) (strOfNums (putV n 4)) ((pc i (n / 2 ^ (32 - i)) : Nat) : Int) (i : Int) = some true := by
  induction d with
  | zero =>
    intro i q hi
    obtain rfl : i = 32 := by omega
    rw [show q + 0 + 100 = (q + 99) + 1 from rfl, speculumlaw01_BitsLog.l0, if_neg (by omega), ones_f _ (by omega)]
    simp only [Option.bind_some]
    have e : pc 64 (n : Int).toNat = pc 32 (n / 2 ^ (32 - 32)) := by
      have := pc_add 32 32 n
      rw [Int.toNat_natCast, show (64 : Nat) = 32 + 32 from rfl, this]
      have z : n / 2 ^ 32 = 0 := by simp; omega
      have p0 : ∀ j, pc j 0 = 0 := by intro j; induction j with
        | zero => rfl
        | succ j ij => simp [pc, ij]
      rw [z, p0]; simp
    rw [e, if_pos rfl, show q + 99 = 20 + (q + 79) from by omega, turned_f]; rfl
  | succ d ih =>
    intro i q hi
    have b := bit_put n (by omega) i (by omega)
    have g := ih (i + 1) q (by omega)
    have e2 : n / 2 ^ (31 - i) = n / 2 ^ (32 - (i + 1)) := by rw [show 32 - (i + 1) = 31 - i from by omega]
    have step : pc (i + 1) (n / 2 ^ (32 - (i + 1))) = n / 2 ^ (31 - i) % 2 + pc i (n / 2 ^ (32 - i)) := by
      rw [← e2]; simp only [pc]
      rw [Nat.div_div_eq_div_mul, ← Nat.pow_succ, show (31 - i).succ = 32 - i from by omega]
    rw [step] at g
    have pl := pc_le i (n / 2 ^ (32 - i))
    have bn : (n : Int) / 2 ^ (31 - i) % 2 = ((n / 2 ^ (31 - i) % 2 : Nat) : Int) := by simp
    rw [bn] at b
    have lt2 : n / 2 ^ (31 - i) % 2 < 2 := Nat.mod_lt _ (by decide)
    have z : (i : Int) < 31 - (k : Int) → n / 2 ^ (31 - i) % 2 = 0 := by
      intro h
      have : n / 2 ^ (31 - i) = 0 := Nat.div_eq_of_lt (Nat.lt_of_lt_of_le hhi (Nat.pow_le_pow_right (by decide) (by omega)))
      rw [this]
    have o : (i : Int) = 31 - (k : Int) → n / 2 ^ (31 - i) % 2 = 1 := by
      intro h
      rw [show 31 - i = k from by omega]
      have : n / 2 ^ k = 1 := by rw [Nat.pow_succ] at hhi; exact Nat.div_eq_of_lt_le (by omega) (by omega)
      rw [this]
    generalize n / 2 ^ (31 - i) % 2 = v at *
    generalize pc i (n / 2 ^ (32 - i)) = m at *
    rw [show q + (d + 1) + 100 = (q + d + 100) + 1 from by omega, speculumlaw01_BitsLog.l0, if_pos (by omega), b]
    simp only [Option.bind_some]
    have e3 : ((v + m : Nat) : Int) = (m : Int) + (v : Int) := by omega
    have e4 : ((i + 1 : Nat) : Int) = (i : Int) + 1 := by omega
    rw [e3, e4] at g
    rw [w64 (x := 31 - (k : Int)) (by omega) (by omega), w64 (x := (m : Int) + v) (by omega) (by omega), w64 (x := (i : Int) + 1) (by omega) (by omega), g]
    by_cases c1 : (i : Int) < 31 - (k : Int)
    · rw [if_pos c1, if_pos (by have := z c1; omega), if_neg (by omega)]
    · rw [if_neg c1]
      by_cases c2 : (i : Int) = 31 - (k : Int)
      · rw [if_pos c2, if_pos (by have := o c2; omega)]
      · rw [if_neg c2]

theorem pc_pow (k : Nat) : ∀ b, k < b → pc b (2 ^ k) = 1 := by
  have p0 : ∀ j, pc j 0 = 0 := by intro j; induction j with
    | zero => rfl
    | succ j ij => simp [pc, ij]
  induction k with
  | zero => intro b hb; obtain ⟨b, rfl⟩ : ∃ c, b = c + 1 := ⟨b - 1, by omega⟩; simp [pc, p0]
  | succ k ih =>
    intro b hb
    obtain ⟨b, rfl⟩ : ∃ c, b = c + 1 := ⟨b - 1, by omega⟩
    simp only [pc]; rw [Nat.pow_succ, show 2 ^ k * 2 % 2 = 0 from by omega, show 2 ^ k * 2 / 2 = 2 ^ k from by omega, ih b (by omega)]

theorem fin_zero : speculumlaw01_BitsLog.f 300 0 = some true := by
  unfold speculumlaw01_BitsLog.f
  have l : bits_Log.f 300 (wrap64 0) = some (-1) := by decide +kernel
  have w : wrap64 0 = 0 := w64 (by omega) (by omega)
  rw [l, w]
  simp only [Option.bind_some, if_true]
  have o : bits_Ones.f 0 = some 0 := by decide +kernel
  rw [o]
  simp only [Option.bind_some, if_true]
  have tt : speculumlaw01_turned.f 300 = some true := turned_f 280
  rw [tt]; rfl
theorem pf299 (n : Nat) : bits_Put.f 299 (n : Int) 4 = some (strOfNums (putV n 4)) := by
  have h := put_f (n : Int) 4 (by omega) 289
  rw [show 289 + 10 = 299 from rfl] at h
  exact h
theorem g299 (n k : Nat) (hn : n < 4294967296) (hk : k ≤ 31) (L1 : 2 ^ k ≤ n) (L2 : n < 2 ^ (k + 1)) : ∃ m, m ≤ 299 ∧ speculumlaw01_BitsLog.l0 m (n : Int) (k : Int) (strOfNums (putV n 4)) 0 0 = some true := by
  have g := log_loop n hn k hk L1 L2 32 0 157 (by omega)
  simp only [pc] at g
  exact ⟨_, by omega, g⟩
theorem fin_j (n k : Nat) (hn : n < 4294967296) (hk : k ≤ 31) (L1 : 2 ^ k ≤ n) (L2 : n < 2 ^ (k + 1)) (m : Nat) (hm : m = 299) : speculumlaw01_BitsLog.j0 (m + 1) (n : Int) (n : Int) (k : Int) false = some true := by
  obtain ⟨q, hq, g⟩ := g299 n k hn hk L1 L2
  have pf := pf299 n
  rw [← hm] at pf
  rw [speculumlaw01_BitsLog.j0, if_neg (by decide), wu64_of (by omega) (by omega), pf]
  simp only [Option.bind_some]
  exact at_rounds (g := fun k' => speculumlaw01_BitsLog.l0 k' (n : Int) (k : Int) (strOfNums (putV n 4)) 0 0) (fun k' => (speculumlaw01_BitsLog.mono_l k').2 _ _ _ _ _) (by omega) g
theorem fin_pos (n k : Nat) (hn : n < 4294967296) (h0 : 0 < n) (hk : k ≤ 31) (L1 : 2 ^ k ≤ n) (L2 : n < 2 ^ (k + 1)) (hl : bl 64 n = k + 1) (q : Nat) (hq : q = 299) : speculumlaw01_BitsLog.f (q + 1) (n : Int) = some true := by
  have fj := fin_j n k hn hk L1 L2 q hq
  unfold speculumlaw01_BitsLog.f
  rw [w64 (by omega) (by omega), log_f _ (by omega)]
  simp only [Option.bind_some, Int.toNat_natCast]
  rw [hl, if_neg (by omega)]
  have e : ((k + 1 : Nat) : Int) - 1 = (k : Int) := by omega
  have pw : (2 : Nat) ^ k ≤ 2 ^ 31 := Nat.pow_le_pow_right (by decide) (by omega)
  simp only [Nat.reducePow] at pw
  have sh : shl .i64 1 (k : Int) = ((2 ^ k : Nat) : Int) := by
    unfold shl
    rw [Int.toNat_natCast, Nat.min_eq_left (by show k ≤ 64; omega), Int.one_mul, IntKind.wrap_i64]
    have : (2 : Int) ^ k = ((2 ^ k : Nat) : Int) := by simp
    rw [this]
    generalize 2 ^ k = u at *
    omega
  rw [Nat.pow_succ] at L2
  rw [e, if_neg (by omega), if_neg (by omega), if_pos (by omega), sh, if_neg (by omega), Int.tdiv_eq_ediv_of_nonneg (by omega), w64 (by omega) (by omega), if_neg (by omega), ones_f _ (by omega)]
  simp only [Option.bind_some, Int.toNat_natCast]
  rw [pc_pow k 64 (by omega)]
  have en : (((1 : Nat) : Int) != 1) = false := by decide
  rw [en]
  exact fj
theorem BitsLog : speculumlaw01_BitsLog.Pure := by
  intro a b
  have c : 0 ≤ a ∧ a < 4294967296 := by simp [Lit.wf, IntKind.min, IntKind.max, IntKind.signed, IntKind.bits] at b; omega
  obtain ⟨n, rfl⟩ : ∃ n : Nat, a = n := ⟨a.toNat, by omega⟩
  by_cases h : n = 0
  · subst h
    exact ⟨300, fin_zero⟩
  · have L := bl_low 64 n (by omega) (by simp; omega)
    have P : 1 ≤ bl 64 n := bl_pos 63 n (by omega)
    have U : bl 64 n ≤ 32 := by have := bl_more 32 32 n (by simp; omega); rw [show (64 : Nat) = 32 + 32 from rfl, this]; exact bl_le 32 n
    obtain ⟨k, hk⟩ : ∃ k, bl 64 n = k + 1 := ⟨bl 64 n - 1, by omega⟩
    rw [hk] at L U
    rw [show k + 1 - 1 = k from by omega] at L
    exact ⟨_, fin_pos n k (by omega) (by omega) (by omega) L.1 L.2 hk 299 rfl⟩

end Go.Proofs.Ytpbjiaokfalncaa.Pure
