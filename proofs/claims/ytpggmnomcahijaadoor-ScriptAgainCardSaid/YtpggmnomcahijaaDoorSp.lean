/- Steps as texts, in plain words. -/
import Derived.Test.YtpggmnomcahijaaDoorKf
import Derived.Test.YtpggmnomcahijaaDoorKw10
import Derived.Test.YtpggmnomcahijaaDoorShelf
import Derived.Lib.SplitLaws
import Derived.Lib.CountLaws
import Derived.Lib.IndexBytes
namespace Go.Proofs.YtpggmnomcahijaaDoor.Fn
open Go Go.Proofs Go.RowKit
set_option linter.unusedVariables false
set_option linter.unusedSimpArgs false
/-! ### Texts in plain words -/
def digitsL : List UInt8 := [48, 49, 50, 51, 52, 53, 54, 55, 56, 57, 97, 98, 99, 100, 101, 102]
def dg (n : Nat) : UInt8 := digitsL.getD n 0
def hexL (s : List UInt8) : List UInt8 := 120 :: s.flatMap fun b => [dg (b.toNat / 16), dg (b.toNat % 16)]
def splitL (c : UInt8) : List UInt8 → List (List UInt8)
  | [] => [[]]
  | b :: l => if b = c then [] :: splitL c l else match splitL c l with
    | [] => [[b]]
    | w :: ws => (b :: w) :: ws
def cutL (c : UInt8) : List UInt8 → List UInt8 × List UInt8 × Bool
  | [] => ([], [], false)
  | b :: l => if b = c then ([], l, true) else match cutL c l with
    | (x, y, true) => (b :: x, y, true)
    | (_, _, false) => (b :: l, [], false)
theorem splitL_cons (c b : UInt8) (l : List UInt8) : splitL c (b :: l) = if b = c then [] :: splitL c l else match splitL c l with
    | [] => [[b]]
    | w :: ws => (b :: w) :: ws := rfl
theorem cutL_cons (c b : UInt8) (l : List UInt8) : cutL c (b :: l) = if b = c then ([], l, true) else match cutL c l with
    | (x, y, true) => (b :: x, y, true)
    | (_, _, false) => (b :: l, [], false) := rfl
theorem splitL_ne (c : UInt8) (l : List UInt8) : splitL c l ≠ [] := by
  cases l with
  | nil => simp [splitL]
  | cons b l => unfold splitL; split; simp; split <;> simp
theorem index_one (c b : UInt8) (l : List UInt8) : Lib.index (b :: l) [c] = if b = c then 0 else if Lib.index l [c] == -1 then -1 else Lib.index l [c] + 1 := by
  rw [Lib.index]
  by_cases h : b = c
  · subst h; simp
  · have h2 : ¬ c = b := fun e => h e.symm
    simp [h, h2]
theorem idx_miss (c : UInt8) : ∀ l, Lib.index l [c] = -1 → splitL c l = [l] ∧ cutL c l = (l, [], false)
  | [], _ => ⟨rfl, rfl⟩
  | b :: l, h => by
    rw [index_one] at h
    by_cases e : b = c
    · rw [if_pos e] at h; cases h
    · rw [if_neg e] at h
      have hi : Lib.index l [c] = -1 := by
        by_cases h1 : Lib.index l [c] = -1
        · exact h1
        · have := Lib.index_ge l [c]
          rw [if_neg (by simpa using h1)] at h; omega
      obtain ⟨h1, h2⟩ := idx_miss c l hi
      rw [splitL_cons, cutL_cons, if_neg e, if_neg e, h1, h2]
      exact ⟨rfl, rfl⟩
theorem idx_hit (c : UInt8) : ∀ l (i : Nat), Lib.index l [c] = i → splitL c l = l.take i :: splitL c (l.drop (i + 1)) ∧ cutL c l = (l.take i, l.drop (i + 1), true)
  | [], i, h => by simp [Lib.index] at h
  | b :: l, i, h => by
    rw [index_one] at h
    by_cases e : b = c
    · rw [if_pos e] at h
      obtain rfl : i = 0 := by omega
      rw [splitL_cons, cutL_cons, if_pos e, if_pos e]
      exact ⟨rfl, rfl⟩
    · rw [if_neg e] at h
      by_cases h1 : Lib.index l [c] = -1
      · rw [if_pos (by simpa using h1)] at h; omega
      · rw [if_neg (by simpa using h1)] at h
        have := Lib.index_ge l [c]
        obtain ⟨j, hj⟩ : ∃ j : Nat, Lib.index l [c] = j := ⟨(Lib.index l [c]).toNat, by omega⟩
        obtain rfl : i = j + 1 := by omega
        obtain ⟨h2, h3⟩ := idx_hit c l j hj
        rw [splitL_cons, cutL_cons, if_neg e, if_neg e, h2, h3]
        exact ⟨rfl, rfl⟩
theorem cut_cutL (c : UInt8) (l : List UInt8) : Lib.cut l [c] = cutL c l := by
  unfold Lib.cut
  by_cases h : 0 ≤ Lib.index l [c]
  · obtain ⟨i, hi⟩ : ∃ i : Nat, Lib.index l [c] = i := ⟨(Lib.index l [c]).toNat, by omega⟩
    rw [if_pos h, (idx_hit c l i hi).2, hi]; rfl
  · have := Lib.index_ge l [c]
    rw [if_neg h, (idx_miss c l (by omega)).2]
theorem splitB_splitL (c : UInt8) : ∀ (k : Nat) (s : ByteArray), Lib.countB s ⟨#[c]⟩ = k → (Lib.splitB ⟨#[c]⟩ 0 k s).map (·.data.toList) = splitL c s.data.toList
  | k, s, hk => by
    have hix : ∀ s : ByteArray, Lib.indexB s ⟨#[c]⟩ = Lib.index s.data.toList [c] := fun s => rfl
    by_cases h : Lib.index s.data.toList [c] < 0
    · have := Lib.index_ge s.data.toList [c]
      have hm : Lib.indexB s ⟨#[c]⟩ = -1 := by rw [hix]; omega
      rw [Lib.splitB_miss _ _ _ _ hm, (idx_miss c _ (by omega)).1]; rfl
    · obtain ⟨i, hi⟩ : ∃ i : Nat, Lib.index s.data.toList [c] = i := ⟨(Lib.index s.data.toList [c]).toNat, by omega⟩
      have hh : Lib.indexB s ⟨#[c]⟩ = i := by rw [hix]; exact hi
      have hc := Lib.countB_hit s ⟨#[c]⟩ i (Nat.le_refl 1) hh
      match k, hk with
      | 0, hk => omega
      | k + 1, hk =>
        rw [Lib.splitB_hit _ _ _ _ i hh, List.map_cons, splitB_splitL c k _ (by omega), (idx_hit c _ i hi).1]
        congr 1
        · rw [Lib.extract_from_zero]; rfl
        · rw [Lib.extract_to_end]; rfl
/-- The decimal digits, by a count that suffices. -/
def decL : Nat → Nat → List UInt8
  | 0, _ => []
  | f + 1, u => if u < 10 then [UInt8.ofNat (48 + u)] else decL f (u / 10) ++ [UInt8.ofNat (48 + u % 10)]
theorem decL_eq : ∀ (f u : Nat), u < 10 ^ (f + 1) → decL (f + 1) u = Lib.decDigits u
  | 0, u, h => by
    unfold decL
    rw [Lib.decDigits, if_pos (by simpa using h), dif_pos (by simpa using h)]
  | f + 1, u, h => by
    unfold decL
    rw [Lib.decDigits]
    by_cases e : u < 10
    · rw [if_pos e, dif_pos e]
    · rw [if_neg e, dif_neg e, decL_eq f (u / 10) (by rw [Nat.pow_succ] at h; omega)]
def itoaL (n : Int) : List UInt8 := if n < 0 then 45 :: decL 20 n.natAbs else decL 20 n.toNat
def i64 (n : Int) : Prop := -9223372036854775808 ≤ n ∧ n ≤ 9223372036854775807
theorem itoaL_eq {n : Int} (h : i64 n) : itoaL n = Lib.itoa n := by
  unfold i64 at h
  unfold itoaL Lib.itoa
  split
  · rw [decL_eq 19]; have : (10 : Nat) ^ (19 + 1) = 100000000000000000000 := by decide
    omega
  · rw [decL_eq 19]; have : (10 : Nat) ^ (19 + 1) = 100000000000000000000 := by decide
    omega
def atoiV (l : List UInt8) : Int := match Lib.atoiAll l with
  | .ok v => v
  | .range => Lib.atoiSat l
  | _ => 0
def valI (b : UInt8) : Int := Lib.indexByte digitsL b
def pairV (a b : UInt8) : UInt8 := UInt8.ofNat ((valI a * 16 + valI b % 16) % 256).toNat
def unhexL : List UInt8 → List UInt8
  | a :: b :: r => pairV a b :: unhexL r
  | _ => []
/-! ### Steps -/
structure Stp where
  kind : Int
  a : Int
  b : Int
  c : Int
  t : ByteArray
instance : DecidableEq Stp := fun x y =>
  if h : x.kind = y.kind ∧ x.a = y.a ∧ x.b = y.b ∧ x.c = y.c ∧ x.t = y.t then
    isTrue (by
      cases x; cases y
      obtain ⟨h1, h2, h3, h4, h5⟩ := h
      dsimp only at h1 h2 h3 h4 h5
      subst h1 h2 h3 h4 h5
      rfl)
  else isFalse (fun e => h (by subst e; exact ⟨rfl, rfl, rfl, rfl, rfl⟩))
def stp0 : Stp := ⟨0, 0, 0, 0, ⟨#[]⟩⟩
def stpCells (x : Stp) : Array Value := #[.int .i64 x.kind, .int .i64 x.a, .int .i64 x.b, .int .i64 x.c, .string x.t]
def okS (x : Stp) : Prop := i64 x.kind ∧ i64 x.a ∧ i64 x.b ∧ i64 x.c
/-- The kinds: word, how many numbers, whether a text. -/
def tabL : List (List UInt8 × Nat × Bool) := [([], 0, false), ([97, 112, 112, 101, 110, 100], 0, true), ([112, 117, 98, 108, 105, 115, 104], 0, false), ([116, 105, 99, 107], 2, false), ([100, 101, 108, 105, 118, 101, 114], 1, false), ([100, 114, 111, 112], 1, false), ([100, 111, 117, 98, 108, 101], 1, false), ([116, 117, 114, 110], 2, false), ([102, 108, 105, 112], 3, false), ([105, 110, 106, 101, 99, 116], 2, true), ([99, 114, 97, 115, 104], 2, false), ([102, 97, 105, 108], 3, false), ([111, 112, 101, 110], 1, false), ([97, 115, 107], 1, true)]
def wordL (k : Nat) : List UInt8 := (tabL.getD k ([], 0, false)).1
def numsN (k : Nat) : Nat := (tabL.getD k ([], 0, false)).2.1
def txtB (k : Nat) : Bool := (tabL.getD k ([], 0, false)).2.2
theorem numsN_le (k : Nat) : numsN k ≤ 3 := by
  unfold numsN
  rcases Nat.lt_or_ge k 14 with h | h
  · have : k = 0 ∨ k = 1 ∨ k = 2 ∨ k = 3 ∨ k = 4 ∨ k = 5 ∨ k = 6 ∨ k = 7 ∨ k = 8 ∨ k = 9 ∨ k = 10 ∨ k = 11 ∨ k = 12 ∨ k = 13 := by omega
    rcases this with rfl | rfl | rfl | rfl | rfl | rfl | rfl | rfl | rfl | rfl | rfl | rfl | rfl | rfl <;> decide
  · rw [List.getD_eq_getElem?_getD, List.getElem?_eq_none (by simpa [tabL] using h)]; decide
def numsOf (x : Stp) : List Int := [x.a, x.b, x.c].take (numsN x.kind.toNat)
def wordsOf (x : Stp) : List (List UInt8) := wordL x.kind.toNat :: (numsOf x).map itoaL ++ (if txtB x.kind.toNat then [hexL x.t.data.toList] else [])
def good (x : Stp) : Prop := 1 ≤ x.kind ∧ x.kind ≤ 13
instance (x : Stp) : Decidable (good x) := by unfold good; infer_instance
def lineL (x : Stp) : List UInt8 := if good x then Lib.join (wordsOf x) [32] ++ [10] else []
def lineB (x : Stp) : ByteArray := ⟨(lineL x).toArray⟩
def findK (w0 : List UInt8) : Nat → Option Nat
  | 0 => none
  | f + 1 => if wordL (13 - f) = w0 then some (13 - f) else findK w0 f
/-- What a line's words say. -/
def stepX (k : Nat) (ws : List (List UInt8)) : Stp :=
  ⟨k, if 0 < numsN k then atoiV (ws.getD 0 []) else 0, if 1 < numsN k then atoiV (ws.getD 1 []) else 0, if 2 < numsN k then atoiV (ws.getD 2 []) else 0, if txtB k ∧ numsN k < ws.length then ⟨(unhexL (ws.getD (numsN k) []).tail).toArray⟩ else ⟨#[]⟩⟩
def stepF (s : List UInt8) : Stp × Bool :=
  match findK ((splitL 32 s).headD []) 13 with
  | none => (stp0, false)
  | some k => if (splitL 32 s).tail.length < numsN k then (stp0, false) else
    (stepX k (splitL 32 s).tail, decide (lineL (stepX k (splitL 32 s).tail) = s ++ [10]))
def getF : Nat → List UInt8 → Nat → List Stp → List Stp × Nat × Nat
  | 0, _, _, acc => (acc, 0, 0)
  | f + 1, s, line, acc => if s = [] then (acc, 0, 0) else
    if (stepF (cutL 10 s).1).2 = true ∧ (cutL 10 s).2.2 = true then getF f (cutL 10 s).2.1 (line + 1) (acc ++ [(stepF (cutL 10 s).1).1]) else ([], line + 1, 10)
def getL (s : List UInt8) : List Stp × Nat × Nat := getF s.length s 0 []
def putL (l : List Stp) : List UInt8 := l.flatMap lineL

end Go.Proofs.YtpggmnomcahijaaDoor.Fn
