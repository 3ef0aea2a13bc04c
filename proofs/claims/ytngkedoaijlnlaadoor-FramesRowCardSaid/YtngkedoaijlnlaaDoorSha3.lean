/- A text filled up, as SHA-256 fills it. The text has at most 1000000 bytes. -/
import Derived.Test.YtngkedoaijlnlaaDoorSha2
import Derived.Test.YtngkedoaijlnlaaDoorShelf
namespace Go.Proofs.YtngkedoaijlnlaaDoor.Fn
open Go.Proofs Go.RowKit Go.Proofs.YtngkedoaijlnlaaDoorW.PrintWords Go.Proofs.YtngkedoaijlnlaaDoorW.PrintLast Go.Proofs.YtngkedoaijlnlaaDoorW.PrintMore
attribute [local go_sem] max2_int min2_int max_two min_two max_three min_three max_four min_four
def be : Nat → Int → List Int
  | 0, _ => []
  | k + 1, n => be k (n / 256) ++ [n % 256]
theorem be_length (k : Nat) : ∀ n, (be k n).length = k := by
  induction k with
  | zero => intro n; rfl
  | succ k ih => intro n; simp [be, ih]
/-! ### Put -/
theorem set_rep (r : Nat) (v : Int) (tail : List Int) : (List.replicate (r + 1) (0 : Int) ++ tail).set r v = List.replicate r 0 ++ (v :: tail) := by
  have h : List.replicate (r + 1) (0 : Int) ++ tail = List.replicate r 0 ++ (0 :: tail) := by rw [List.replicate_succ', List.append_assoc]; rfl
  rw [h, List.set_append]; simp
theorem put_loop (size : Int) (h0 : 1 ≤ size) (h8 : size ≤ 8) (r : Nat) : ∀ (x i : Int) (tail : List Int) (k : Nat), 0 ≤ x → i = size - r → 0 ≤ i → r + tail.length = size.toNat → r < k →
    bits_Put.l0 k x size (List.replicate r 0 ++ tail) size i = some (strOfNums (be r x ++ tail)) := by
  induction r with
  | zero =>
    intro x i tail k hx hi h hl hk
    obtain ⟨k, rfl⟩ : ∃ m, k = m + 1 := ⟨k - 1, by omega⟩
    simp only [bits_Put.l0]; rw [if_neg (by omega)]; rfl
  | succ r ih =>
    intro x i tail k hx hi h hl hk
    obtain ⟨k, rfl⟩ : ∃ m, k = m + 1 := ⟨k - 1, by omega⟩
    simp only [bits_Put.l0]
    have e : wrap64 (wrap64 (size - 1) - i) = (r : Int) := by rw [w64 (x := size - 1) (by omega) (by omega), w64 (by omega) (by omega)]; omega
    rw [if_pos (by omega), e, if_pos (by omega), if_pos (by rw [List.length_append, List.length_replicate]; omega), w64 (by omega) (by omega)]
    rw [Int.toNat_natCast, set_rep, ih (x / 256) (i + 1) _ k (by omega) (by omega) (by omega) (by simp; omega) (by omega)]
    simp only [be, List.append_assoc]; rfl
/-- What Put tells. -/
def putV (x size : Int) : List Int := if 1 ≤ size ∧ size ≤ 8 then be size.toNat x else []
theorem put_f (x size : Int) (hx : 0 ≤ x) (k : Nat) : bits_Put.f (k + 10) x size = some (strOfNums (putV x size)) := by
  unfold bits_Put.f putV
  by_cases h1 : size < 1
  · rw [if_pos h1, if_neg (by omega)]; simp only [bits_Put.j0]; rfl
  · rw [if_neg h1]
    by_cases h8 : size > 8
    · rw [if_neg (by omega), decide_eq_true h8]; simp only [bits_Put.j0]; rfl
    · rw [if_pos (by omega), decide_eq_false h8]; simp only [bits_Put.j0]
      rw [if_neg (by simp), if_pos (by omega), if_pos (by omega)]
      have := put_loop size (by omega) (by omega) size.toNat x 0 [] (k + 9) hx (by omega) (by omega) (by simp) (by omega)
      rw [List.append_nil, List.append_nil] at this
      exact this
def zerosOf (n : Nat) : Nat := (119 - n % 64) % 64
theorem put_c (x : Int) (hx : 0 ≤ x) (size : Int) (w : World) : Calls Tryd.prog 26 #[.int .u64 x, .int .i64 size] w fun e w' => e = .returned (.string (strOfNums (putV x size))) ∧ Below w.heap.size w w' :=
  bits_Put.calls 10 x size _ w (put_f x size hx 0)
theorem repeat_length (l : List UInt8) (c : Nat) : (Lib.repeatL l c).length = c * l.length := by
  induction c with
  | zero => simp [Lib.repeatL]
  | succ c ih => simp only [Lib.repeatL, List.length_append, ih, Nat.succ_mul]; omega
theorem put8_length (n : Int) : (putV n 8).length = 8 := by unfold putV; rw [if_pos (by omega)]; exact be_length _ _
set_option maxRecDepth 100000 in
theorem filled_c (s : ByteArray) (hs : s.size ≤ 1000000) (w : World) :
    Calls Tryd.prog 24 #[.string s] w fun e w' => e = .returned (.string (s ++ ⟨#[128]⟩ ++ ⟨(Lib.repeatL [0] (zerosOf s.size)).toArray⟩ ++ strOfNums (putV (s.size * 8) 8))) ∧ Below w.heap.size w w' := by
  have rp := Lib.hid fun w => Tryd.strings_Repeat ⟨#[0]⟩ (zerosOf s.size) w (by unfold zerosOf; omega) (by show 1 * _ ≤ _; unfold zerosOf; omega)
  have pc := Lib.hid fun w => put_c ((s.size : Int) * 8) (by omega) 8 w
  have hl0 : (Lib.repeatL [0] (zerosOf s.size)).length = zerosOf s.size := by rw [repeat_length]; simp
  have hl1 : (strOfNums (putV ((s.size : Int) * 8) 8)).size = 8 := by rw [strOfNums_size, put8_length]
  have h0 : zerosOf s.size < 64 := by unfold zerosOf; omega
  have n1 : ¬ 9223372036854775807 < s.size + 1 + (Lib.repeatL [0] (zerosOf s.size)).length := by omega
  have n2 : ¬ 9223372036854775807 < s.size + 1 + (Lib.repeatL [0] (zerosOf s.size)).length + (strOfNums (putV ((s.size : Int) * 8) 8)).size := by omega
  have HL0 := Lib.hid hl0; have HL1 := Lib.hid hl1
  clear hl0 hl1
  go_enter Tryd.func24, Tryd.ntmps24
  have ez : Hid ((119 - (s.size : Int)) % 64 = ((zerosOf s.size : Nat) : Int)) := Lib.hid (by unfold zerosOf; omega)
  go_wp2_with fail
  rw [ez.out]
  refine (rp.out _).mono ?_; rintro e w1 ⟨rfl, b1⟩
  go_wp2_with fail
  refine (pc.out _).mono ?_; rintro e w2 ⟨rfl, b2⟩
  go_wp2_with fail
  go_ret
  exact ⟨rfl, below_then b1 b1.size b2⟩
end Go.Proofs.YtngkedoaijlnlaaDoor.Fn
