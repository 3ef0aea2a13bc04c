/- Plain facts on numbers, with no program in sight: how many bits of a number are 1 (the add-by-halves reckoning and the sum of the bits agree), how long it is, and turning 32 bits. No condition. -/
import Derived.Test.YtpbjiaokfalncaaWMore
import Derived.Laws.BitsLemmas
namespace Go.Proofs.Ytpbjiaokfalncaa.BP
open Go Go.RowKit

theorem div_of (x lo X m : Int) (hm : 0 < m) (h : x = lo + m * X) (h0 : 0 ≤ lo) (h1 : lo < m) : x / m = X := by
  rw [h, Int.add_mul_ediv_left _ _ (by omega), Int.ediv_eq_zero_of_lt h0 h1]; omega

theorem w64 {x : Int} (h0 : -9223372036854775808 ≤ x) (h1 : x ≤ 9223372036854775807) : wrap64 x = x := by unfold wrap64; omega
theorem wu64 (x : Int) : IntKind.u64.wrap x = x % 18446744073709551616 := by simp [IntKind.wrap, IntKind.bits, IntKind.signed]
theorem wu64_of {x : Int} (h0 : 0 ≤ x) (h1 : x < 18446744073709551616) : IntKind.u64.wrap x = x := by rw [wu64]; omega

/-! ### and, on naturals below 2^64 -/
theorem and64 (a b : Nat) (ha : a < 18446744073709551616) (hb : b < 18446744073709551616) : bits .and .u64 (a : Int) (b : Int) = ((a &&& b : Nat) : Int) :=
  (bits_nat .u64 64 (by decide) (fun n h0 h1 => wu64_of h0 (by simpa using h1)) a b (by simpa using ha) (by simpa using hb)).1
theorem and_split (b m x M : Nat) (hb : b < 256) (hm : m < 256) : (b + 256 * x) &&& (m + 256 * M) = (b &&& m) + 256 * (x &&& M) := by
  have h1 : ((b + 256 * x) &&& (m + 256 * M)) % 256 = (b &&& m) % 256 := by
    have := @Nat.and_mod_two_pow (b + 256 * x) (m + 256 * M) 8
    simp only [Nat.reducePow] at this
    rw [this]
    have e1 : (b + 256 * x) % 256 = b := by omega
    have e2 : (m + 256 * M) % 256 = m := by omega
    rw [e1, e2]
    exact (Nat.mod_eq_of_lt (by have := Nat.and_lt_two_pow (n := 8) b (by simpa using hm); simpa using this)).symm
  have h2 : ((b + 256 * x) &&& (m + 256 * M)) / 256 = x &&& M := by
    have := @Nat.and_div_two_pow (b + 256 * x) (m + 256 * M) 8
    simp only [Nat.reducePow] at this
    rw [this]
    have e1 : (b + 256 * x) / 256 = x := by omega
    have e2 : (m + 256 * M) / 256 = M := by omega
    rw [e1, e2]
  have h3 : (b &&& m) < 256 := by have := Nat.and_lt_two_pow (n := 8) b (by simpa using hm); simpa using this
  omega

/-! ### the sum of the bits -/
def pc : Nat → Nat → Nat
  | 0, _ => 0
  | k + 1, n => n % 2 + pc k (n / 2)
theorem pc_le (k : Nat) : ∀ n, pc k n ≤ k := by
  induction k with
  | zero => intro n; simp [pc]
  | succ k ih => intro n; have := ih (n / 2); simp only [pc]; omega
theorem pc_add (a b : Nat) : ∀ n, pc (a + b) n = pc a n + pc b (n / 2 ^ a) := by
  induction a with
  | zero => intro n; simp [pc]
  | succ a ih =>
    intro n
    rw [show a + 1 + b = (a + b) + 1 from by omega]
    simp only [pc]; rw [ih, Nat.div_div_eq_div_mul, Nat.pow_succ, Nat.mul_comm 2]; omega
theorem pc8 (n : Nat) : pc 8 (n % 256) = pc 8 n := by simp only [pc]; omega

/-- What the three first steps make of a byte. -/
def a1 (b : Nat) : Nat := (b / 2 &&& 85) + (b &&& 85)
def a2 (b : Nat) : Nat := (b / 4 &&& 51) + (b &&& 51)
def a3 (b : Nat) : Nat := (b / 16 + b) &&& 15
def rep (m : Nat) : Nat → Nat
  | 0 => 0
  | j + 1 => m + 256 * rep m j
def A1 (j x : Nat) : Nat := (x / 2 &&& rep 85 j) + (x &&& rep 85 j)
def A2 (j x : Nat) : Nat := (x / 4 &&& rep 51 j) + (x &&& rep 51 j)
def A3 (j x : Nat) : Nat := (x / 16 + x) &&& rep 15 j

theorem byte_facts : ∀ b : Fin 256, a1 b.1 ≤ 170 ∧ a2 (a1 b.1) % 16 ≤ 4 ∧ a2 (a1 b.1) / 16 ≤ 4 ∧ a3 (a2 (a1 b.1)) = pc 8 b.1 := by decide +kernel
theorem mask1 : ∀ b : Fin 256, ((b.1 / 2 + 128) &&& 85) = (b.1 / 2 &&& 85) := by decide +kernel
theorem mask2 : ∀ b : Fin 256, ∀ c : Fin 4, ((b.1 / 4 + 64 * c.1) &&& 51) = (b.1 / 4 &&& 51) := by decide +kernel
theorem mask3 (a c : Nat) : (a + 16 * c) &&& 15 = a &&& 15 := by
  have e : ∀ x : Nat, x &&& 15 = x % 16 := fun x => by have := Nat.and_two_pow_sub_one_eq_mod x 4; simpa using this
  rw [e, e]; omega

theorem A1_step (j b x : Nat) (hb : b < 256) : A1 (j + 1) (b + 256 * x) = a1 b + 256 * A1 j x := by
  unfold A1 a1; simp only [rep]
  have e : (b + 256 * x) / 2 = (b / 2 + 128 * (x % 2)) + 256 * (x / 2) := by omega
  rw [e, and_split _ _ _ _ (by omega) (by omega), and_split _ _ _ _ hb (by omega)]
  have m : ((b / 2 + 128 * (x % 2)) &&& 85) = (b / 2 &&& 85) := by
    rcases Nat.mod_two_eq_zero_or_one x with h | h
    · rw [h]; simp
    · rw [h]; exact mask1 ⟨b, hb⟩
  rw [m]; omega
theorem A2_step (j b x : Nat) (hb : b < 256) : A2 (j + 1) (b + 256 * x) = a2 b + 256 * A2 j x := by
  unfold A2 a2; simp only [rep]
  have e : (b + 256 * x) / 4 = (b / 4 + 64 * (x % 4)) + 256 * (x / 4) := by omega
  rw [e, and_split _ _ _ _ (by omega) (by omega), and_split _ _ _ _ hb (by omega), mask2 ⟨b, hb⟩ ⟨x % 4, by omega⟩]
  show (b / 4 &&& 51) + _ + _ = _
  omega
theorem A3_step (j b x : Nat) (h1 : b % 16 ≤ 4) (h2 : b / 16 ≤ 4) (hx : x % 16 ≤ 4) : A3 (j + 1) (b + 256 * x) = a3 b + 256 * A3 j x := by
  unfold A3 a3; simp only [rep]
  have e : (b + 256 * x) / 16 + (b + 256 * x) = (b / 16 + b + 16 * (x % 16)) + 256 * (x / 16 + x) := by omega
  rw [e, and_split _ _ _ _ (by omega) (by omega), mask3]

/-- Bytes, the lowest first. -/
def num : List Nat → Nat
  | [] => 0
  | b :: l => b + 256 * num l
def bytes : Nat → Nat → List Nat
  | 0, _ => []
  | k + 1, n => n % 256 :: bytes k (n / 256)
theorem bytes_lt (k : Nat) : ∀ n, ∀ b ∈ bytes k n, b < 256 := by
  induction k with
  | zero => intro n b h; simp [bytes] at h
  | succ k ih => intro n b h; simp only [bytes, List.mem_cons] at h; rcases h with rfl | h; omega; exact ih _ b h
theorem num_bytes (k : Nat) : ∀ n, n < 256 ^ k → num (bytes k n) = n := by
  induction k with
  | zero => intro n h; simp at h; simp [bytes, num, h]
  | succ k ih =>
    intro n h
    have h' : n / 256 < 256 ^ k := by rw [Nat.div_lt_iff_lt_mul (by decide)]; rw [Nat.pow_succ] at h; exact h
    simp only [bytes, num]; rw [ih _ h']; omega
theorem A1_num : ∀ l : List Nat, (∀ b ∈ l, b < 256) → A1 l.length (num l) = num (l.map a1)
  | [], _ => by simp [A1, num, rep]
  | b :: l, h => by
    simp only [List.length_cons, num, List.map_cons]
    rw [A1_step _ _ _ (h b (by simp)), A1_num l (fun x hx => h x (by simp [hx]))]
theorem A2_num : ∀ l : List Nat, (∀ b ∈ l, b < 256) → A2 l.length (num l) = num (l.map a2)
  | [], _ => by simp [A2, num, rep]
  | b :: l, h => by
    simp only [List.length_cons, num, List.map_cons]
    rw [A2_step _ _ _ (h b (by simp)), A2_num l (fun x hx => h x (by simp [hx]))]
theorem num_mod : ∀ l : List Nat, (∀ b ∈ l, b % 16 ≤ 4) → num l % 16 ≤ 4
  | [], _ => by simp [num]
  | b :: l, h => by have := h b (by simp); simp only [num]; omega
theorem A3_num : ∀ l : List Nat, (∀ b ∈ l, b % 16 ≤ 4 ∧ b / 16 ≤ 4) → A3 l.length (num l) = num (l.map a3)
  | [], _ => by simp [A3, num, rep]
  | b :: l, h => by
    simp only [List.length_cons, num, List.map_cons]
    have hb := h b (by simp)
    rw [A3_step _ _ _ hb.1 hb.2 (num_mod l (fun x hx => (h x (by simp [hx])).1)), A3_num l (fun x hx => h x (by simp [hx]))]
theorem bytes_length (k : Nat) : ∀ n, (bytes k n).length = k := by
  induction k with
  | zero => intro n; rfl
  | succ k ih => intro n; simp [bytes, ih]
theorem A123 (n : Nat) (h : n < 18446744073709551616) : A3 8 (A2 8 (A1 8 n)) = num ((bytes 8 n).map (pc 8)) := by
  have lt := bytes_lt 8 n
  have e0 := num_bytes 8 n (by simpa using h)
  have l0 := bytes_length 8 n
  have e1 := A1_num (bytes 8 n) lt
  rw [e0, l0] at e1
  have f : ∀ b ∈ bytes 8 n, a1 b ≤ 170 ∧ a2 (a1 b) % 16 ≤ 4 ∧ a2 (a1 b) / 16 ≤ 4 ∧ a3 (a2 (a1 b)) = pc 8 b := fun b hb => byte_facts ⟨b, lt b hb⟩
  have e2 := A2_num ((bytes 8 n).map a1) (fun b hb => by obtain ⟨c, hc, rfl⟩ := List.mem_map.1 hb; have := f c hc; omega)
  rw [List.length_map, l0] at e2
  have e3 := A3_num (((bytes 8 n).map a1).map a2) (fun b hb => by
    obtain ⟨c, hc, rfl⟩ := List.mem_map.1 hb
    obtain ⟨d, hd, rfl⟩ := List.mem_map.1 hc
    have := f d hd; exact ⟨this.2.1, this.2.2.1⟩)
  rw [List.length_map, List.length_map, l0] at e3
  rw [e1, e2, e3, List.map_map, List.map_map]
  congr 1
  refine List.map_congr_left fun b hb => ?_
  exact (f b hb).2.2.2
theorem rep85 : rep 85 8 = 6148914691236517205 := by decide +kernel
theorem rep51 : rep 51 8 = 3689348814741910323 := by decide +kernel
theorem rep15 : rep 15 8 = 1085102592571150095 := by decide +kernel

theorem pc64 (n : Nat) : pc 64 n = pc 8 n + pc 8 (n / 256) + pc 8 (n / 256 / 256) + pc 8 (n / 256 / 256 / 256) + pc 8 (n / 256 / 256 / 256 / 256) + pc 8 (n / 256 / 256 / 256 / 256 / 256) + pc 8 (n / 256 / 256 / 256 / 256 / 256 / 256) + pc 8 (n / 256 / 256 / 256 / 256 / 256 / 256 / 256) := by
  have s : ∀ k m, pc (8 + k) m = pc 8 m + pc k (m / 256) := fun k m => by have := pc_add 8 k m; simpa using this
  rw [show (64 : Nat) = 8 + 56 from rfl, s, show (56 : Nat) = 8 + 48 from rfl, s, show (48 : Nat) = 8 + 40 from rfl, s, show (40 : Nat) = 8 + 32 from rfl, s, show (32 : Nat) = 8 + 24 from rfl, s, show (24 : Nat) = 8 + 16 from rfl, s, show (16 : Nat) = 8 + 8 from rfl, s]
  omega

/-- The whole reckoning of math/bits.OnesCount64, as the printed function spells it. -/
def s1 (x : Int) : Int := IntKind.u64.wrap ((bits .and .u64 (x / 2) 6148914691236517205) + (bits .and .u64 x 6148914691236517205))
def s2 (y : Int) : Int := IntKind.u64.wrap ((bits .and .u64 (y / 4) 3689348814741910323) + (bits .and .u64 y 3689348814741910323))
def s3 (z : Int) : Int := bits .and .u64 (IntKind.u64.wrap ((z / 16) + z)) 1085102592571150095
def s4 (m t : Int) : Int := IntKind.u64.wrap (t + t / m)
def ones64 (x : Int) : Int := bits .and .i64 (wrap64 (s4 4294967296 (s4 65536 (s4 256 (s3 (s2 (s1 x))))))) 127

theorem and_le (x m : Nat) : x &&& m ≤ m := Nat.and_le_right
theorem and127 (x : Int) (h0 : 0 ≤ x) (h1 : x < 9223372036854775808) : bits .and .i64 x 127 = x % 128 := by
  have := bits_mask .i64 63 (by decide) (fun n a b => by rw [IntKind.wrap_i64]; simp at b; omega) 7 (by decide) x h0 (by simpa using h1)
  simpa using this

theorem u_small (p0 p1 p2 p3 p4 p5 p6 p7 : Nat) (h0 : p0 ≤ 8) (h1 : p1 ≤ 8) (h2 : p2 ≤ 8) (h3 : p3 ≤ 8) (h4 : p4 ≤ 8) (h5 : p5 ≤ 8) (h6 : p6 ≤ 8) (h7 : p7 ≤ 8) (t u v q : Int)
    (ht : t = p0 + 256 * (p1 + 256 * (p2 + 256 * (p3 + 256 * (p4 + 256 * (p5 + 256 * (p6 + 256 * p7)))))))
    (hu : u = (t + t / 256) % 18446744073709551616) (hv : v = (u + u / 65536) % 18446744073709551616) (hq : q = (v + v / 4294967296) % 18446744073709551616) :
    q % 128 = p0 + p1 + p2 + p3 + p4 + p5 + p6 + p7 ∧ 0 ≤ q ∧ q < 9223372036854775808 := by
  have du := div_of t p0 (p1 + 256 * (p2 + 256 * (p3 + 256 * (p4 + 256 * (p5 + 256 * (p6 + 256 * p7)))))) 256 (by omega) (by omega) (by omega) (by omega)
  rw [du] at hu; clear du
  have eu : u = (p0 + p1) + 256 * (p1 + p2) + 65536 * ((p2 + p3) + 256 * ((p3 + p4) + 256 * ((p4 + p5) + 256 * ((p5 + p6) + 256 * ((p6 + p7) + 256 * p7))))) := by omega
  clear hu ht
  have dv := div_of u ((p0 + p1) + 256 * (p1 + p2)) _ 65536 (by omega) eu (by omega) (by omega)
  rw [dv] at hv; clear dv
  have ev : v = (p0 + p1 + p2 + p3) + 256 * (p1 + p2 + p3 + p4) + 65536 * (p2 + p3 + p4 + p5) + 16777216 * (p3 + p4 + p5 + p6) + 4294967296 * ((p4 + p5 + p6 + p7) + 256 * ((p5 + p6 + p7) + 256 * ((p6 + p7) + 256 * p7))) := by omega
  clear eu hv
  have dq := div_of v ((p0 + p1 + p2 + p3) + 256 * (p1 + p2 + p3 + p4) + 65536 * (p2 + p3 + p4 + p5) + 16777216 * (p3 + p4 + p5 + p6)) _ 4294967296 (by omega) ev (by omega) (by omega)
  rw [dq] at hq; clear dq
  have eq : q = (p0 + p1 + p2 + p3 + p4 + p5 + p6 + p7) + 128 * (2 * ((p1 + p2 + p3 + p4 + p5 + p6 + p7) + 256 * (p2 + p3 + p4 + p5 + p6 + p7) + 65536 * (p3 + p4 + p5 + p6 + p7) + 16777216 * ((p4 + p5 + p6 + p7) + 256 * ((p5 + p6 + p7) + 256 * ((p6 + p7) + 256 * p7))))) := by omega
  clear hq ev
  refine ⟨?_, by omega, by omega⟩
  omega

theorem num8 (f : Nat → Nat) (a0 a1 a2 a3 a4 a5 a6 a7 : Nat) : num ([a0, a1, a2, a3, a4, a5, a6, a7].map f) = f a0 + 256 * (f a1 + 256 * (f a2 + 256 * (f a3 + 256 * (f a4 + 256 * (f a5 + 256 * (f a6 + 256 * f a7)))))) := rfl

theorem ones64_eq (n : Nat) (h : n < 18446744073709551616) : ones64 (n : Int) = (pc 64 n : Int) := by
  have k85 : (6148914691236517205 : Int) = ((rep 85 8 : Nat) : Int) := by rw [rep85]; rfl
  have k51 : (3689348814741910323 : Int) = ((rep 51 8 : Nat) : Int) := by rw [rep51]; rfl
  have k15 : (1085102592571150095 : Int) = ((rep 15 8 : Nat) : Int) := by rw [rep15]; rfl
  have b85 : rep 85 8 < 18446744073709551616 := by rw [rep85]; decide
  have b51 : rep 51 8 < 18446744073709551616 := by rw [rep51]; decide
  have b15 : rep 15 8 < 18446744073709551616 := by rw [rep15]; decide
  have ey : s1 (n : Int) = ((A1 8 n : Nat) : Int) := by
    unfold s1
    rw [k85, show ((n : Int) / 2) = ((n / 2 : Nat) : Int) from by omega, and64 _ _ (by omega) b85, and64 _ _ h b85]
    unfold A1
    have i1 := and_le (n / 2) (rep 85 8); have i2 := and_le n (rep 85 8); rw [rep85] at i1 i2
    rw [rep85] at *
    rw [wu64_of (by omega) (by omega)]; omega
  have hA1 : A1 8 n < 18446744073709551616 := by
    unfold A1; have i1 := and_le (n / 2) (rep 85 8); have i2 := and_le n (rep 85 8); rw [rep85] at *; omega
  have ez : s2 ((A1 8 n : Nat) : Int) = ((A2 8 (A1 8 n) : Nat) : Int) := by
    clear ey
    generalize A1 8 n = y at *
    unfold s2
    rw [k51, show ((y : Int) / 4) = ((y / 4 : Nat) : Int) from by omega, and64 _ _ (by omega) b51, and64 _ _ hA1 b51]
    unfold A2
    have i1 := and_le (y / 4) (rep 51 8); have i2 := and_le y (rep 51 8); rw [rep51] at *
    rw [wu64_of (by omega) (by omega)]; omega
  have hA2 : A2 8 (A1 8 n) ≤ 7378697629483820646 := by
    generalize A1 8 n = y
    unfold A2; have i1 := and_le (y / 4) (rep 51 8); have i2 := and_le y (rep 51 8); rw [rep51] at *; omega
  have et : s3 ((A2 8 (A1 8 n) : Nat) : Int) = ((A3 8 (A2 8 (A1 8 n)) : Nat) : Int) := by
    clear ey ez
    generalize A2 8 (A1 8 n) = y at *
    unfold s3
    rw [wu64_of (by omega) (by omega), k15, show ((y : Int) / 16 + (y : Int)) = ((y / 16 + y : Nat) : Int) from by omega, and64 _ _ (by omega) b15]
    rfl
  unfold ones64
  rw [ey, ez, et, A123 n h, pc64]
  have eb : bytes 8 n = [n % 256, n / 256 % 256, n / 256 / 256 % 256, n / 256 / 256 / 256 % 256, n / 256 / 256 / 256 / 256 % 256, n / 256 / 256 / 256 / 256 / 256 % 256, n / 256 / 256 / 256 / 256 / 256 / 256 % 256, n / 256 / 256 / 256 / 256 / 256 / 256 / 256 % 256] := by simp only [bytes]
  rw [eb, num8, pc8, pc8, pc8, pc8, pc8, pc8, pc8, pc8]
  have e4 : ∀ m t : Int, s4 m t = (t + t / m) % 18446744073709551616 := fun m t => wu64 _
  rw [e4, e4, e4]
  have l0 := pc_le 8 n
  have l1 := pc_le 8 (n / 256)
  have l2 := pc_le 8 (n / 256 / 256)
  have l3 := pc_le 8 (n / 256 / 256 / 256)
  have l4 := pc_le 8 (n / 256 / 256 / 256 / 256)
  have l5 := pc_le 8 (n / 256 / 256 / 256 / 256 / 256)
  have l6 := pc_le 8 (n / 256 / 256 / 256 / 256 / 256 / 256)
  have l7 := pc_le 8 (n / 256 / 256 / 256 / 256 / 256 / 256 / 256)
  clear e4 eb et ez ey hA1 hA2
  generalize pc 8 n = p0 at *
  generalize pc 8 (n / 256) = p1 at *
  generalize pc 8 (n / 256 / 256) = p2 at *
  generalize pc 8 (n / 256 / 256 / 256) = p3 at *
  generalize pc 8 (n / 256 / 256 / 256 / 256) = p4 at *
  generalize pc 8 (n / 256 / 256 / 256 / 256 / 256) = p5 at *
  generalize pc 8 (n / 256 / 256 / 256 / 256 / 256 / 256) = p6 at *
  generalize pc 8 (n / 256 / 256 / 256 / 256 / 256 / 256 / 256) = p7 at *
  obtain ⟨t, ht⟩ : ∃ t : Int, t = ((p0 + 256 * (p1 + 256 * (p2 + 256 * (p3 + 256 * (p4 + 256 * (p5 + 256 * (p6 + 256 * p7)))))) : Nat) : Int) := ⟨_, rfl⟩
  rw [← ht]
  obtain ⟨u, hu⟩ : ∃ u : Int, u = (t + t / 256) % 18446744073709551616 := ⟨_, rfl⟩
  rw [← hu]
  obtain ⟨v, hv⟩ : ∃ v : Int, v = (u + u / 65536) % 18446744073709551616 := ⟨_, rfl⟩
  rw [← hv]
  obtain ⟨q, hq⟩ : ∃ q : Int, q = (v + v / 4294967296) % 18446744073709551616 := ⟨_, rfl⟩
  rw [← hq]
  have g := u_small p0 p1 p2 p3 p4 p5 p6 p7 l0 l1 l2 l3 l4 l5 l6 l7 t u v q (by clear hu hv hq; omega) hu hv hq
  clear ht hu hv hq
  rw [w64 (by omega) (by omega), and127 _ g.2.1 g.2.2, g.1]
  omega

/-! ### how long a number is -/
def bl : Nat → Nat → Nat
  | 0, _ => 0
  | k + 1, n => if n = 0 then 0 else 1 + bl k (n / 2)
theorem bl_zero (k : Nat) : bl k 0 = 0 := by cases k <;> simp [bl]
theorem bl_le (k : Nat) : ∀ n, bl k n ≤ k := by
  induction k with
  | zero => intro n; simp [bl]
  | succ k ih => intro n; simp only [bl]; split; omega; have := ih (n / 2); omega
theorem bl_add (j k : Nat) : ∀ n, 2 ^ j ≤ n → bl (j + k) n = j + bl k (n / 2 ^ j) := by
  induction j with
  | zero => intro n _; simp
  | succ j ih =>
    intro n h
    rw [show j + 1 + k = (j + k) + 1 from by omega]; simp only [bl]
    have hp : 0 < 2 ^ j := Nat.two_pow_pos j
    rw [Nat.pow_succ] at h ⊢
    rw [if_neg (by omega), ih (n / 2) (by omega), Nat.div_div_eq_div_mul, Nat.mul_comm 2]; omega
theorem bl_more (k j : Nat) : ∀ n, n < 2 ^ k → bl (k + j) n = bl k n := by
  induction k with
  | zero =>
    intro n h
    have e : n = 0 := by simpa using h
    rw [e, bl_zero, bl_zero]
  | succ k ih =>
    intro n h
    rw [show k + 1 + j = (k + j) + 1 from by omega]; simp only [bl]
    rw [Nat.pow_succ] at h
    rw [ih (n / 2) (by omega)]
theorem bl_pos (k n : Nat) (h : 0 < n) : 1 ≤ bl (k + 1) n := by simp only [bl]; rw [if_neg (by omega)]; omega
/-- 2 to the place of the highest bit is not above n, and above half of it. -/
theorem bl_low (k : Nat) : ∀ n, 0 < n → n < 2 ^ k → 2 ^ (bl k n - 1) ≤ n ∧ n < 2 ^ bl k n := by
  induction k with
  | zero => intro n h0 h; simp at h; omega
  | succ k ih =>
    intro n h0 h
    simp only [bl]; rw [if_neg (by omega)]
    rw [Nat.pow_succ] at h
    by_cases e : n / 2 = 0
    · rw [e, bl_zero]; simp; omega
    · have i := ih (n / 2) (by omega) (by omega)
      rw [show 1 + bl k (n / 2) - 1 = bl k (n / 2) from by omega, Nat.pow_add]
      have p1 : 1 ≤ bl k (n / 2) := by
        cases k with
        | zero => simp at h; omega
        | succ k => exact bl_pos k _ (by omega)
      obtain ⟨c, hc⟩ : ∃ c, bl k (n / 2) = c + 1 := ⟨bl k (n / 2) - 1, by omega⟩
      rw [hc] at i ⊢
      rw [show c + 1 - 1 = c from by omega] at i
      rw [Nat.pow_succ] at i ⊢
      omega

/-! ### 32 bits turned -/
def stp (x : Int) : Int := (x * 2) % 4294967296 + x / 2147483648
def iter : Nat → Int → Int
  | 0, x => x
  | t + 1, x => iter t (stp x)
def rot (t : Nat) (x : Int) : Int := (x * 2 ^ t) % 4294967296 + x / 2 ^ (32 - t)
theorem stp_range {x : Int} (h : 0 ≤ x ∧ x < 4294967296) : 0 ≤ stp x ∧ stp x < 4294967296 := by unfold stp; omega
theorem iter_range (t : Nat) : ∀ x : Int, 0 ≤ x ∧ x < 4294967296 → 0 ≤ iter t x ∧ iter t x < 4294967296 := by
  induction t with
  | zero => intro x h; exact h
  | succ t ih => intro x h; exact ih _ (stp_range h)
theorem iter_add (a b : Nat) : ∀ x, iter (a + b) x = iter b (iter a x) := by
  induction a with
  | zero => intro x; simp [iter]
  | succ a ih => intro x; rw [show a + 1 + b = (a + b) + 1 from by omega]; simp only [iter]; exact ih _
theorem stp_parts (A B a c d x : Int) (hA : 0 < A) (hB : 0 < B) (hAB : A * B = 2147483648) (hx : x = 2 * B * a + (B * c + d)) (ha : 0 ≤ a ∧ a < A) (hc : 0 ≤ c ∧ c ≤ 1) (hd : 0 ≤ d ∧ d < B) :
    stp ((x * A) % 4294967296 + x / (2 * B)) = (x * (2 * A)) % 4294967296 + x / B := by
  have dA : d * A ≤ 2147483648 - A := by
    have h1 : d * A ≤ (B - 1) * A := Int.mul_le_mul_of_nonneg_right (by omega) (by omega)
    have h2 : (B - 1) * A = A * B - A := by rw [Int.sub_mul, Int.one_mul, Int.mul_comm]
    omega
  have dA0 : 0 ≤ d * A := Int.mul_nonneg hd.1 (by omega)
  have xA : x * A = 4294967296 * a + 2147483648 * c + d * A := by rw [hx]; grind
  have x2A : x * (2 * A) = 2 * (x * A) := by grind
  have q1 : x / (2 * B) = a := by
    have bc : 0 ≤ B * c ∧ B * c ≤ B := by
      rcases (by omega : c = 0 ∨ c = 1) with rfl | rfl <;> simp <;> omega
    exact div_of x (B * c + d) a (2 * B) (by omega) (by rw [hx]; omega) (by omega) (by omega)
  have q2 : x / B = 2 * a + c := div_of x d (2 * a + c) B (by omega) (by rw [hx]; grind) hd.1 hd.2
  rw [q1, q2, x2A, xA]
  generalize d * A = e at *
  have m1 : (4294967296 * a + 2147483648 * c + e) % 4294967296 = 2147483648 * c + e := by
    rcases (by omega : c = 0 ∨ c = 1) with rfl | rfl <;> omega
  have m2 : 2 * (4294967296 * a + 2147483648 * c + e) % 4294967296 = 2 * e := by
    rcases (by omega : c = 0 ∨ c = 1) with rfl | rfl <;> omega
  rw [m1, m2]
  clear m1 m2 q1 q2 x2A xA hx
  unfold stp
  rcases (by omega : c = 0 ∨ c = 1) with rfl | rfl <;> omega
theorem rot_stp (x : Int) (h : 0 ≤ x ∧ x < 4294967296) (t : Nat) (ht : t < 32) : stp (rot t x) = rot (t + 1) x := by
  unfold rot
  have e1 : (2 : Int) ^ (32 - t) = 2 * 2 ^ (31 - t) := by rw [show 32 - t = (31 - t) + 1 from by omega, Int.pow_succ, Int.mul_comm]
  have e2 : (2 : Int) ^ (t + 1) = 2 * 2 ^ t := by rw [Int.pow_succ, Int.mul_comm]
  rw [e1, e2, show 32 - (t + 1) = 31 - t from by omega]
  have hAB : (2 : Int) ^ t * 2 ^ (31 - t) = 2147483648 := by rw [← Int.pow_add, show t + (31 - t) = 31 from by omega]; rfl
  have hA : (0 : Int) < 2 ^ t := Int.pow_pos (by decide)
  have hB : (0 : Int) < 2 ^ (31 - t) := Int.pow_pos (by decide)
  generalize (2 : Int) ^ t = A at *
  generalize (2 : Int) ^ (31 - t) = B at *
  have m1 := Int.mul_ediv_add_emod x (2 * B)
  have m2 := Int.mul_ediv_add_emod (x % (2 * B)) B
  have r0 := Int.emod_nonneg x (show (2 * B) ≠ 0 by omega)
  have r1 := Int.emod_lt_of_pos x (show 0 < 2 * B by omega)
  refine stp_parts A B (x / (2 * B)) ((x % (2 * B)) / B) ((x % (2 * B)) % B) x hA hB hAB (by omega) ⟨Int.ediv_nonneg h.1 (by omega), ?_⟩ ⟨Int.ediv_nonneg r0 (by omega), ?_⟩ ⟨Int.emod_nonneg _ (by omega), Int.emod_lt_of_pos _ hB⟩
  · refine Int.ediv_lt_of_lt_mul (by omega) ?_
    have : A * (2 * B) = 4294967296 := by grind
    omega
  · have : (x % (2 * B)) / B < 2 := Int.ediv_lt_of_lt_mul hB (by omega)
    omega
theorem iter_rot (x : Int) (h : 0 ≤ x ∧ x < 4294967296) (t : Nat) (ht : t ≤ 32) : iter t x = rot t x := by
  induction t with
  | zero => show x = _; unfold rot; simp; omega
  | succ t ih =>
    have i := ih (by omega)
    rw [iter_add t 1, i]; exact rot_stp x h t (by omega)
theorem iter_32 (x : Int) (h : 0 ≤ x ∧ x < 4294967296) : iter 32 x = x := by
  rw [iter_rot x h 32 (by omega)]; unfold rot; simp
theorem iter_mod (x : Int) (h : 0 ≤ x ∧ x < 4294967296) (t : Nat) : iter t x = iter (t % 32) x := by
  have m : ∀ q r : Nat, iter (32 * q + r) x = iter r x := by
    intro q
    induction q with
    | zero => intro r; simp
    | succ q ih => intro r; rw [show 32 * (q + 1) + r = 32 + (32 * q + r) from by omega, iter_add, iter_32 x h]; exact ih r
  have := m (t / 32) (t % 32)
  rw [show 32 * (t / 32) + t % 32 = t from by omega] at this
  exact this
/-- By any number of places. -/
def turn (x k : Int) : Int := iter (k % 32).toNat x
theorem turn_turn (x a b : Int) (h : 0 ≤ x ∧ x < 4294967296) : turn (turn x a) b = turn x (a + b) := by
  unfold turn
  rw [← iter_add, iter_mod x h]
  congr 1
  omega
theorem turn_zero (x a : Int) (h : a % 32 = 0) : turn x a = x := by unfold turn; rw [h]; rfl
theorem turn_range (x a : Int) (h : 0 ≤ x ∧ x < 4294967296) : 0 ≤ turn x a ∧ turn x a < 4294967296 := iter_range _ _ h
theorem or32 (i : Nat) (hi : i ≤ 32) (x y : Int) (h0 : 0 ≤ x) (hx : x % 2 ^ i = 0) (h1 : x < 4294967296) (h2 : 0 ≤ y) (h3 : y < 2 ^ i) : bits .or .u32 x y = x + y :=
  bits_join .u32 32 (by decide) (fun n a b => by rw [IntKind.wrap_u32]; simp at b; omega) i x y h0 hx (by simpa using h1) h2 h3 (by
    have : (2 : Int) ^ i ≤ 2 ^ 32 := by exact_mod_cast Nat.pow_le_pow_right (by decide : 0 < 2) hi
    omega)
theorem rotl_or (x : Int) (h : 0 ≤ x ∧ x < 4294967296) (t : Nat) (ht : t < 32) : bits .or .u32 ((x * 2 ^ t) % 4294967296) (x / 2 ^ (32 - t)) = rot t x := by
  have hd : ((2 : Int) ^ t) ∣ 4294967296 := by
    have : (4294967296 : Int) = 2 ^ t * 2 ^ (32 - t) := by rw [← Int.pow_add]; rw [show t + (32 - t) = 32 from by omega]; rfl
    rw [this]; exact Int.dvd_mul_right _ _
  have hp : (0 : Int) < 2 ^ (32 - t) := Int.pow_pos (by decide)
  refine or32 t (by omega) _ _ (Int.emod_nonneg _ (by decide)) ?_ (Int.emod_lt_of_pos _ (by decide)) (Int.ediv_nonneg h.1 (by omega)) ?_
  · rw [Int.emod_emod_of_dvd _ hd, Int.mul_emod_left]
  · refine Int.ediv_lt_of_lt_mul hp ?_
    have : (2 : Int) ^ t * 2 ^ (32 - t) = 4294967296 := by rw [← Int.pow_add, show t + (32 - t) = 32 from by omega]; rfl
    omega

/-! ### bytes, the highest first -/
def be : Nat → Int → List Int
  | 0, _ => []
  | k + 1, n => be k (n / 256) ++ [n % 256]
theorem be_length (k : Nat) : ∀ n, (be k n).length = k := by
  induction k with
  | zero => intro n; rfl
  | succ k ih => intro n; simp [be, ih]

end Go.Proofs.Ytpbjiaokfalncaa.BP
