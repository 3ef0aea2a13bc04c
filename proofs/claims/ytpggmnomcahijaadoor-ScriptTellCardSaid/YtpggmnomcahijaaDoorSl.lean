/- A step's line. -/
import Derived.Test.YtpggmnomcahijaaDoorSc
namespace Go.Proofs.YtpggmnomcahijaaDoor.Fn
open Go Go.Proofs Go.RowKit
set_option linter.unusedVariables false
set_option linter.unusedSimpArgs false
/-- Bytes as cells. -/
def byV (s : List UInt8) : List Value := s.map fun b => .int .u8 ((b.toNat : Nat) : Int)
theorem byV_length (s : List UInt8) : (byV s).length = s.length := by simp [byV]
theorem byV_app (s t : List UInt8) : byV (s ++ t) = byV s ++ byV t := by simp [byV]
theorem byV_one (s : List UInt8) : ∀ u ∈ byV s, u.oneCell' = true := fun u hu => by
  obtain ⟨b, _, rfl⟩ := List.mem_map.1 hu; rfl
theorem size_list (s : ByteArray) : s.data.toList.length = s.size := by simp
theorem bytes_back (s : ByteArray) : (⟨s.data.toList.toArray⟩ : ByteArray) = s := ByteArray.ext (by simp)
theorem byt_list (s : ByteArray) (i : Nat) (h : i < s.data.toList.length) : Kw.byt s i = (((s.data.toList[i]'h).toNat : Nat) : Int) := by
  have h2 : i < s.size := by rw [← size_list]; exact h
  unfold Kw.byt
  rw [dif_pos h2]
  rfl
theorem and15 : ∀ a, a < 256 → Go.bits .and .u8 ((a : Nat) : Int) 15 = ((a % 16 : Nat) : Int) := by decide +kernel
abbrev digitsB : ByteArray := ⟨#[48, 49, 50, 51, 52, 53, 54, 55, 56, 57, 97, 98, 99, 100, 101, 102]⟩
theorem byt_dg : ∀ n, n < 16 → Kw.byt digitsB n = (((dg n).toNat : Nat) : Int) := by decide +kernel
theorem take_snocL {α : Type} {l : List α} {i : Nat} (h : i < l.length) : l.take (i + 1) = l.take i ++ [l[i]'h] := List.take_succ_eq_append_getElem h
theorem hexL_snoc (l : List UInt8) (y : UInt8) : hexL (l ++ [y]) = hexL l ++ [dg (y.toNat / 16), dg (y.toNat % 16)] := by unfold hexL; simp
theorem hexL_len (l : List UInt8) : (hexL l).length = 1 + 2 * l.length := by
  induction l with
  | nil => rfl
  | cons b l ih =>
    have e : hexL (b :: l) = 120 :: dg (b.toNat / 16) :: dg (b.toNat % 16) :: l.flatMap fun b => [dg (b.toNat / 16), dg (b.toNat % 16)] := rfl
    have e2 : (hexL l).length = 1 + (l.flatMap fun b => [dg (b.toNat / 16), dg (b.toNat % 16)]).length := by unfold hexL; rw [List.length_cons]; omega
    rw [e, List.length_cons, List.length_cons, List.length_cons, List.length_cons]; omega
theorem decL_len : ∀ f u, (decL f u).length ≤ f
  | 0, _ => Nat.le_refl _
  | f + 1, u => by
    unfold decL
    split
    · simp
    · have := decL_len f (u / 10); rw [List.length_append]; simp; omega
theorem itoaL_len (n : Int) : (itoaL n).length ≤ 21 := by
  unfold itoaL
  have h1 := decL_len 20 n.natAbs
  have h2 := decL_len 20 n.toNat
  split
  · rw [List.length_cons]; omega
  · omega
def sumL : List (List UInt8) → Nat
  | [] => 0
  | x :: xs => x.length + sumL xs
theorem join_len (xs : List (List UInt8)) : (Lib.join xs [32]).length ≤ sumL xs + xs.length := by
  unfold Lib.join
  induction xs with
  | nil => simp [sumL, List.intercalate]
  | cons x xs ih =>
    cases xs with
    | nil => simp [List.intercalate, sumL]
    | cons y ys =>
      have e : [32].intercalate (x :: y :: ys) = x ++ [32] ++ [32].intercalate (y :: ys) := by simp [List.intercalate, List.intersperse]
      rw [e, List.length_append, List.length_append, sumL]
      simp only [List.length_cons, List.length_nil] at ih ⊢
      omega
theorem sumL_app (xs ys : List (List UInt8)) : sumL (xs ++ ys) = sumL xs + sumL ys := by
  induction xs with
  | nil => simp [sumL]
  | cons x xs ih => rw [List.cons_append, sumL, sumL, ih]; omega
theorem sumL_itoa (ns : List Int) : sumL (ns.map itoaL) ≤ 21 * ns.length := by
  induction ns with
  | nil => simp [sumL]
  | cons n ns ih => rw [List.map_cons, sumL, List.length_cons]; have := itoaL_len n; omega
theorem wordL_len (k : Nat) : (wordL k).length ≤ 7 := by
  unfold wordL
  rcases Nat.lt_or_ge k 14 with h | h
  · have : k = 0 ∨ k = 1 ∨ k = 2 ∨ k = 3 ∨ k = 4 ∨ k = 5 ∨ k = 6 ∨ k = 7 ∨ k = 8 ∨ k = 9 ∨ k = 10 ∨ k = 11 ∨ k = 12 ∨ k = 13 := by omega
    rcases this with rfl | rfl | rfl | rfl | rfl | rfl | rfl | rfl | rfl | rfl | rfl | rfl | rfl | rfl <;> decide
  · rw [List.getD_eq_getElem?_getD, List.getElem?_eq_none (by simpa [tabL] using h)]; decide
theorem words_len (x : Stp) : (Lib.join (wordsOf x) [32]).length ≤ 100 + 2 * x.t.size := by
  have h1 := join_len (wordsOf x)
  have h2 := wordL_len x.kind.toNat
  have h3 : (numsOf x).length ≤ 3 := by unfold numsOf; rw [List.length_take]; simp; omega
  have h4 := sumL_itoa (numsOf x)
  have h5 := hexL_len x.t.data.toList
  rw [size_list] at h5
  have e : sumL (wordsOf x) + (wordsOf x).length ≤ 7 + 63 + (1 + 2 * x.t.size) + 5 := by
    unfold wordsOf
    split
    · rw [sumL_app, List.length_append, sumL, sumL, sumL, List.length_cons, List.length_map, List.length_singleton]; omega
    · rw [List.append_nil, sumL, List.length_cons, List.length_map]; omega
  omega
theorem lineL_len (x : Stp) : (lineL x).length ≤ 101 + 2 * x.t.size := by
  unfold lineL
  split
  · rw [List.length_append]; have := words_len x; simp; omega
  · simp
def kcells (k : Nat) : Array Value := #[.string ⟨(wordL k).toArray⟩, .int .i64 (numsN k : Int), .bool (txtB k)]
theorem tab_at {k : Nat} (h : k < 14) : ∀ j v, (kcells k)[j]? = some v → tabC[k * 3 + j]? = some v := by
  have : k = 0 ∨ k = 1 ∨ k = 2 ∨ k = 3 ∨ k = 4 ∨ k = 5 ∨ k = 6 ∨ k = 7 ∨ k = 8 ∨ k = 9 ∨ k = 10 ∨ k = 11 ∨ k = 12 ∨ k = 13 := by omega
  intro j v hj
  have hlt : j < 3 := (Array.getElem?_eq_some_iff.1 hj).1
  have hj3 : j = 0 ∨ j = 1 ∨ j = 2 := by omega
  rcases this with rfl | rfl | rfl | rfl | rfl | rfl | rfl | rfl | rfl | rfl | rfl | rfl | rfl | rfl <;> rcases hj3 with rfl | rfl | rfl <;> exact hj
def abc (a b c : Int) (i : Nat) : Int := if i = 0 then a else if i = 1 then b else c
theorem abc_at (a b c : Int) (i : Nat) (h : i < 3) : (#[Value.int .i64 a, .int .i64 b, .int .i64 c] : Array Value)[i]? = some (.int .i64 (abc a b c i)) := by
  have : i = 0 ∨ i = 1 ∨ i = 2 := by omega
  rcases this with rfl | rfl | rfl <;> rfl
theorem abc_list (a b c : Int) (i : Nat) (h : i < 3) : [a, b, c].take (i + 1) = [a, b, c].take i ++ [abc a b c i] := by
  have : i = 0 ∨ i = 1 ∨ i = 2 := by omega
  rcases this with rfl | rfl | rfl <;> rfl
def bA (l : List UInt8) : ByteArray := ⟨l.toArray⟩
theorem bA_back (l : List UInt8) : (bA l).data.toList = l := by simp [bA]
theorem bA_app (l m : List UInt8) : bA l ++ bA m = bA (l ++ m) := by
  unfold bA
  apply ByteArray.ext
  simp
theorem bA_size (l : List UInt8) : (bA l).size = l.length := by rw [← size_list, bA_back]
/-- Words as cells. -/
def wsV (ws : List (List UInt8)) : List Value := ws.map fun l => .string (bA l)
theorem wsV_app (a b : List (List UInt8)) : wsV (a ++ b) = wsV a ++ wsV b := by simp [wsV]
theorem wsV_str (ws : List (List UInt8)) : wsV ws = (ws.map bA).map Value.string := by simp [wsV]
theorem map_back (ws : List (List UInt8)) : (ws.map bA).map (·.data.toList) = ws := by
  rw [List.map_map]
  conv => rhs; rw [← List.map_id ws]
  apply List.map_congr_left
  intro l _
  exact bA_back l

theorem join_w (B n : Nat) (v : Value) (W : List (List UInt8)) (w : World) (h : Kw.Own w B 9 1 v n (wsV W)) (hn : n = W.length) (hl : W.length ≤ 1000) (hj : (Lib.join W [32]).length ≤ 1000000000) : Calls Tryd.prog 24 #[v, .string ⟨#[32]⟩] w fun e w' => e = .returned (.string (bA (Lib.join W [32]))) ∧ Below w.heap.size w w' := by
  have := join_c B n v (W.map bA) w (by rw [← wsV_str]; exact h) (by rw [List.length_map]; exact hn) (by rw [List.length_map]; exact hl) (by rw [map_back]; exact hj)
  rw [map_back] at this
  exact this
theorem lineB_bad {x : Stp} (h : ¬ good x) : Value.string ⟨#[]⟩ = .string (lineB x) := by unfold lineB lineL; rw [if_neg h]
theorem lineB_good {x : Stp} (h : good x) : bA (Lib.join (wordsOf x) [32]) ++ ⟨#[10]⟩ = lineB x := by
  unfold lineB lineL
  rw [if_pos h]
  exact bA_app _ [10]
theorem abc_i64 {a b c : Int} (ha : i64 a) (hb : i64 b) (hc : i64 c) (i : Nat) : i64 (abc a b c i) := by
  unfold abc; split; exact ha; split; exact hb; exact hc
theorem words_t {k : Nat} {a b c : Int} {t : ByteArray} (h : txtB k = true) : wordsOf ⟨k, a, b, c, t⟩ = (wordL k :: ([a, b, c].take (numsN k)).map itoaL) ++ [hexL t.data.toList] := by
  unfold wordsOf numsOf; simp [h]
theorem words_f {k : Nat} {a b c : Int} {t : ByteArray} (h : txtB k = false) : wordsOf ⟨k, a, b, c, t⟩ = (wordL k :: ([a, b, c].take (numsN k)).map itoaL) := by
  unfold wordsOf numsOf; simp [h]
theorem words_n (x : Stp) : (wordsOf x).length ≤ 5 := by
  unfold wordsOf
  have h3 : (numsOf x).length ≤ 3 := by unfold numsOf; rw [List.length_take]; simp; omega
  split <;> simp <;> omega

set_option maxRecDepth 100000 in
set_option maxHeartbeats 4000000 in
theorem hex_c (s : ByteArray) (hs : s.size ≤ 1000000000) (w : World) : Calls Tryd.prog 23 #[.string s] w fun e w' => e = .returned (.string (bA (hexL s.data.toList))) ∧ Below w.heap.size w w' := by
  have HB : Below w.heap.size w w := Below.refl _ _
  refine Kw.enter Tryd.func23 rfl Tryd.ntmps23 rfl rfl ?_
  refine Kw.WC_seq (fun K1 hK1 => ?_)
  refine Kw.WC_region [some 2] rfl ?_
  refine Kw.WL_v rfl rfl rfl (Kw.R_assign rfl) ?_
  refine Kw.WL_nil ?_
  refine hK1 _ _ ?_; clear hK1 K1
  refine Kw.WC_seq (fun K2 hK2 => ?_)
  refine Kw.WC_region [some 5, some 3] rfl ?_
  obtain ⟨gb, w3, N_gb⟩ : ∃ b_ w2_, Kw.Newb w b_ #[.int .u8 120] 5 w2_ := ⟨_, _, rfl, rfl⟩
  refine Kw.WL_v rfl rfl rfl (Kw.R_buildSlice rfl (fun w => by kernel_rfl) N_gb) ?_
  have A_gb : Kw.At w3 gb #[.int .u8 120] 5 := N_gb.at_
  have G_gb := N_gb.ge HB (Nat.le_refl _); replace HB := N_gb.below HB (Nat.le_refl _); clear N_gb
  refine Kw.WL_v rfl rfl rfl (Kw.R_assign rfl) ?_
  obtain ⟨v0, hev0⟩ : ∃ x : Value, x = .slice (some ⟨gb, 0, none⟩) 1 1 := ⟨_, rfl⟩
  have O_v0 : Kw.Own w3 w.heap.size 5 1 v0 1 ([.int .u8 120]) := by rw [hev0]; exact Kw.Own.whole G_gb A_gb (by unfold maxLen; omega) rfl
  clear A_gb
  refine Kw.WL_sub (l' := [(3, v0), (0, .string s), (2, .string ⟨#[]⟩), (5, .slice (some ⟨gb, 0, none⟩) 1 1)]) (by rw [hev0]; exact (Kw.Sub.cons rfl (Kw.Sub.cons rfl (Kw.Sub.cons rfl (Kw.Sub.cons rfl Kw.Sub.nil))))) ?_
  refine Kw.WL_nil ?_
  refine hK2 _ _ ?_; clear hK2 K2
  refine Kw.WC_seq (fun K4 hK4 => ?_)
  refine Kw.WC_seq (fun K5 hK5 => ?_)
  refine Kw.WC_region [some 6, some 7, some 8] rfl ?_
  refine Kw.WL_v rfl rfl rfl (Kw.R_move rfl) ?_
  refine Kw.WL_v rfl rfl rfl (Kw.R_lens Tryd.underlying9 rfl) ?_
  refine Kw.WL_v rfl rfl rfl (Kw.R_move rfl) ?_
  refine Kw.WL_nil ?_
  refine hK5 _ _ ?_; clear hK5 K5
  refine Kw.WC_block ?_
  refine Kw.WC_loop (ι := Nat × Value) (fun (q : Nat × Value) (ww : World) => match q with | ⟨i, v⟩ => (i ≤ s.size) ∧ Kw.Own ww w.heap.size 5 1 v ((hexL (s.data.toList.take i)).length) (byV (hexL (s.data.toList.take i))) ∧ Below w.heap.size w ww) (fun (q : Nat × Value) => match q with | ⟨i, v⟩ => [(0, .string s), (3, v), (7, .int .i64 (s.size : Int)), (8, .int .i64 (i : Int))]) (fun (q : Nat × Value) => match q with | ⟨i, v⟩ => s.size - i) (0, v0) ⟨Nat.zero_le _, O_v0, HB⟩ (Kw.Sub.cons rfl (Kw.Sub.cons rfl (Kw.Sub.cons rfl (Kw.Sub.cons rfl Kw.Sub.nil)))) ?_
  clear O_v0
  clear HB
  rintro ⟨i, v⟩ w6 ⟨hi, O_v, HB⟩
  dsimp only at *
  refine Kw.WC_seq (fun K7 hK7 => ?_)
  refine Kw.WC_region [some 9] rfl ?_
  by_cases c8 : (i : Int) < (s.size : Int)
  ·
    refine Kw.WL_v rfl rfl rfl (Kw.R_lss (z := true) rfl rfl (decide_eq_true c8)) ?_
    have hi3 : i < s.data.toList.length := by rw [size_list]; omega
    obtain ⟨y, hy⟩ : ∃ y, y = s.data.toList[i]'hi3 := ⟨_, rfl⟩
    have hy8 := UInt8.toNat_lt y
    refine Kw.WL_nil ?_
    refine hK7 _ _ ?_; clear hK7 K7
    refine Kw.WC_seq (fun K9 hK9 => ?_)
    refine Kw.WC_true rfl ?_
    refine Kw.WC_skip ?_
    refine hK9 _ _ ?_; clear hK9 K9
    refine Kw.WC_seq (fun K10 hK10 => ?_)
    refine Kw.WC_block ?_
    refine Kw.WC_seq (fun K11 hK11 => ?_)
    refine Kw.WC_region [some 10, some 4] rfl ?_
    refine Kw.WL_v rfl rfl rfl (Kw.R_move rfl) ?_
    refine Kw.WL_v rfl rfl rfl (Kw.R_assign rfl) ?_
    refine Kw.WL_nil ?_
    refine hK11 _ _ ?_; clear hK11 K11
    refine Kw.WC_fork (fun ww => True ∧ True) (.take 0 (.take 1 (.take 2 (.take 3 (.take 4 (.take 5 (.take 6 (.take 7 (.take 8 (.take 9 (.take 10 (.only 11 (.only 12 (.take 13 .done)))))))))))))) [some 11, some 12, some 13, some 14, some 15, some 16, some 17, some 18, some 19, some 20, some 21, some 22, some 23, some 3] rfl (by kernel_rfl) rfl (by kernel_rfl) ?_
    obtain ⟨w12, hww12⟩ : ∃ x : World, x = Go.World.drew w6 := ⟨_, rfl⟩
    rw [← hww12]
    replace O_v := O_v.drew; rw [← hww12] at O_v
    replace HB : Below w.heap.size w w12 := by rw [hww12]; exact HB.drew
    clear hww12
    have hS : True ∧ True := ⟨trivial, trivial⟩
    refine Kw.WZ_take rfl rfl rfl rfl (fun _ _ _ h => h) hS (fun _ ⟨_, _⟩ => Kw.R_move rfl) ?_
    refine Kw.WZ_take rfl rfl rfl rfl (fun _ _ _ h => h) hS (fun _ ⟨_, _⟩ => Kw.R_move rfl) ?_
    refine Kw.WZ_take rfl rfl rfl rfl (fun _ _ _ h => h) hS (fun _ ⟨_, _⟩ => Kw.R_move rfl) ?_
    refine Kw.WZ_take rfl rfl rfl rfl (fun _ _ _ h => h) hS (fun _ ⟨_, _⟩ => Kw.R_indexb (i := i) (c := ((y.toNat : Nat) : Int)) Tryd.underlying9 rfl rfl (by rw [← size_list]; exact hi3) (by rw [byt_list s i hi3, ← hy])) ?_
    refine Kw.WZ_take rfl rfl rfl rfl (fun _ _ _ h => h) hS (fun _ ⟨_, _⟩ => Kw.R_shr (c := ((y.toNat / 16 : Nat) : Int)) rfl rfl (by omega) (by rw [Int.fdiv_eq_ediv_of_nonneg _ (by decide)]; show ((y.toNat : Nat) : Int) / 16 = _; omega)) ?_
    refine Kw.WZ_take rfl rfl rfl rfl (fun _ _ _ h => h) hS (fun _ ⟨_, _⟩ => Kw.R_indexb (i := (y.toNat / 16 : Nat)) (c := (((dg (y.toNat / 16)).toNat : Nat) : Int)) Tryd.underlying9 rfl rfl (by show y.toNat / 16 < 16; omega) (byt_dg _ (by omega))) ?_
    refine Kw.WZ_take rfl rfl rfl rfl (fun _ _ _ h => h) hS (fun _ ⟨_, _⟩ => Kw.R_move rfl) ?_
    refine Kw.WZ_take rfl rfl rfl rfl (fun _ _ _ h => h) hS (fun _ ⟨_, _⟩ => Kw.R_move rfl) ?_
    refine Kw.WZ_take rfl rfl rfl rfl (fun _ _ _ h => h) hS (fun _ ⟨_, _⟩ => Kw.R_indexb (i := i) (c := ((y.toNat : Nat) : Int)) Tryd.underlying9 rfl rfl (by rw [← size_list]; exact hi3) (by rw [byt_list s i hi3, ← hy])) ?_
    refine Kw.WZ_take rfl rfl rfl rfl (fun _ _ _ h => h) hS (fun _ ⟨_, _⟩ => Kw.R_bits (c := ((y.toNat % 16 : Nat) : Int)) rfl rfl rfl (and15 _ (UInt8.toNat_lt y))) ?_
    refine Kw.WZ_take rfl rfl rfl rfl (fun _ _ _ h => h) hS (fun _ ⟨_, _⟩ => Kw.R_indexb (i := (y.toNat % 16 : Nat)) (c := (((dg (y.toNat % 16)).toNat : Nat) : Int)) Tryd.underlying9 rfl rfl (by show y.toNat % 16 < 16; omega) (byt_dg _ (by omega))) ?_
    refine Kw.WZ_only ?_
    obtain ⟨g22, w13, N_g22⟩ : ∃ b_ w2_, Kw.Newb w12 b_ #[.int .u8 (((dg (y.toNat / 16)).toNat : Nat) : Int), .int .u8 (((dg (y.toNat % 16)).toNat : Nat) : Int)] 5 w2_ := ⟨_, _, rfl, rfl⟩
    have R_g22 := fun (l : Kw.Env) (h : Kw.evsP l [(0, .tmp 16), (1, .tmp 21)] = some [(0, .int .u8 (((dg (y.toNat / 16)).toNat : Nat) : Int)), (1, .int .u8 (((dg (y.toNat % 16)).toNat : Nat) : Int))]) => Kw.R_buildSlice (P := Tryd.prog) (l := l) (D := some 22) (T := 42) (S := "script.go:52") (F := #[⟨5, .data⟩, ⟨10, .data⟩]) (g := none) (t := 42) (len := 2) h (fun w => by kernel_rfl) N_g22
    have A_g22 : Kw.At w13 g22 #[.int .u8 (((dg (y.toNat / 16)).toNat : Nat) : Int), .int .u8 (((dg (y.toNat % 16)).toNat : Nat) : Int)] 5 := N_g22.at_
    have D_v_g22 := O_v.ne_new N_g22; replace O_v := O_v.new N_g22
    have G_g22 := N_g22.ge HB (Nat.le_refl _); replace HB := N_g22.below HB (Nat.le_refl _); clear N_g22
    clear hS; have hS : True ∧ True := ⟨trivial, trivial⟩
    refine Kw.WO_v rfl rfl rfl rfl (R_g22 _ rfl) hS ?_; clear R_g22
    refine Kw.WZ_only ?_
    refine Kw.WO_append rfl rfl rfl rfl rfl Tryd.underlying42 Tryd.underlying42 (.inr ⟨_, rfl⟩) F.sz5 F.by5 F.ze5 rfl O_v (Kw.News.row (news := [.int .u8 (((dg (y.toNat / 16)).toNat : Nat) : Int), .int .u8 (((dg (y.toNat % 16)).toNat : Nat) : Int)]) A_g22 rfl rfl (by simp [Value.oneCell'])) (by unfold maxLen; rw [hexL_len, List.length_take]; omega) (by rw [hexL_len, List.length_take]; omega) HB.size ?_; intro v23 w14 O_v23 R_v23
    have D_v23_g22 := R_v23.ne A_g22 D_v_g22
    replace A_g22 := R_v23.keep A_g22 D_v_g22
    replace HB := R_v23.below HB (Nat.le_refl _) (fun g hg => O_v.ge hg); clear R_v23
    replace O_v23 : Kw.Own w14 w.heap.size 5 1 v23 ((hexL (s.data.toList.take (i + 1))).length) (byV (hexL (s.data.toList.take (i + 1)))) := by rw [take_snocL hi3, ← hy, hexL_snoc, List.length_append, byV_app]; exact O_v23
    clear O_v
    clear A_g22
    clear hS; have hS : True ∧ True := ⟨trivial, trivial⟩
    refine ⟨hS, ?_⟩
    refine Kw.WZ_take rfl rfl rfl rfl (fun _ _ _ h => h) hS (fun _ ⟨_, _⟩ => Kw.R_assign rfl) ?_
    refine Kw.WZ_nil ?_
    clear hS
    refine Kw.QN_block ?_
    refine hK10 _ _ ?_; clear hK10 K10
    refine Kw.WC_sub (l' := [(0, .string s), (3, v23), (7, .int .i64 (s.size : Int)), (8, .int .i64 (i : Int))]) (Kw.Sub.cons rfl (Kw.Sub.cons rfl (Kw.Sub.cons rfl (Kw.Sub.cons rfl Kw.Sub.nil)))) ?_
    refine Kw.WC_region [some 24, some 8] rfl ?_
    refine Kw.WL_v rfl rfl rfl (Kw.R_add (c := ((i + 1 : Nat) : Int)) rfl rfl (by rw [Kw.wrap_i64 (by omega)]; omega)) ?_
    refine Kw.WL_v rfl rfl rfl (Kw.R_move rfl) ?_
    refine Kw.WL_nil ?_
    refine Kw.QN_round ((i + 1, v23)) ⟨by (try dsimp only); omega, O_v23, HB⟩ (by dsimp only; omega) (Kw.Sub.cons rfl (Kw.Sub.cons rfl (Kw.Sub.cons rfl (Kw.Sub.cons rfl Kw.Sub.nil))))
  ·
    refine Kw.WL_v rfl rfl rfl (Kw.R_lss (z := false) rfl rfl (decide_eq_false c8)) ?_
    refine Kw.WL_nil ?_
    refine hK7 _ _ ?_; clear hK7 K7
    refine Kw.WC_seq (fun K15 hK15 => ?_)
    refine Kw.WC_false rfl ?_
    refine Kw.WC_exit ?_
    refine Kw.QE_then ?_; clear hK15 K15
    refine Kw.QE_then ?_
    refine Kw.QE_here ?_
    refine hK4 _ _ ?_; clear hK4 K4
    refine Kw.WC_seq (fun K16 hK16 => ?_)
    refine Kw.WC_region [some 25, some 26, some 2] rfl ?_
    refine Kw.WL_v rfl rfl rfl (Kw.R_move rfl) ?_
    rw [List.take_of_length_le (by rw [size_list]; omega)] at O_v
    have hhl := hexL_len s.data.toList; rw [size_list] at hhl
    obtain ⟨gv, capv, curv, rfl, hBv, A_gv, hcv, hsv, htv⟩ := O_v.open (by omega)
    refine Kw.WL_v rfl rfl rfl (Kw.R_convbs (bs := hexL s.data.toList) (r := bA (hexL s.data.toList)) Tryd.underlying42 Tryd.underlying5 Tryd.underlying9 rfl A_gv rfl (fun j hj => by
        have e : curv[0 + j]? = (byV (hexL s.data.toList))[j]? := by rw [← htv, List.getElem?_take, if_pos (by omega), Array.getElem?_toList, Nat.zero_add]
        rw [e]; simp only [byV, List.getElem?_map, List.getElem?_eq_getElem hj]; rfl) rfl) ?_
    refine Kw.WL_v rfl rfl rfl (Kw.R_assign rfl) ?_
    refine Kw.WL_nil ?_
    refine hK16 _ _ ?_; clear hK16 K16
    refine Kw.WC_sub (l' := [(2, .string (bA (hexL s.data.toList)))]) (Kw.Sub.cons rfl Kw.Sub.nil) ?_
    refine Kw.WC_ret ?_
    exact Kw.post_ret1 rfl rfl ⟨rfl, HB⟩

set_option maxRecDepth 100000 in
set_option maxHeartbeats 4000000 in
theorem line_c (x : Stp) (ok : okS x) (ht : x.t.size ≤ 10000000) (w : World) (GG : Glob w) : Calls Tryd.prog 15 #[.agg (stpCells x)] w fun e w' => e = .returned (.string (lineB x)) ∧ Below w.heap.size w w' := by
  have HB : Below w.heap.size w w := Below.refl _ _
  obtain ⟨kd, a, b, c, t⟩ := x
  dsimp only at ht
  refine Kw.enter Tryd.func15 rfl Tryd.ntmps15 rfl rfl ?_
  refine Kw.WC_seq (fun K1 hK1 => ?_)
  refine Kw.WC_region [some 1, some 2] rfl ?_
  refine Kw.WL_box rfl rfl rfl ?_; intro gx w2 N_gx
  have A_gx : Kw.At w2 gx #[.int .i64 kd, .int .i64 a, .int .i64 b, .int .i64 c, .string t] 30 := N_gx.at_
  have G_gx := N_gx.ge HB (Nat.le_refl _); replace HB := N_gx.below HB (Nat.le_refl _); clear N_gx
  refine Kw.WL_v rfl rfl rfl (Kw.R_assign rfl) ?_
  refine Kw.WL_nil ?_
  refine hK1 _ _ ?_; clear hK1 K1
  refine Kw.WC_seq (fun K3 hK3 => ?_)
  refine Kw.WC_seq (fun K4 hK4 => ?_)
  refine Kw.WC_region [some 7, some 8, some 9, some 10, some 11, some 12, some 13, some 14] rfl ?_
  refine Kw.WL_v rfl rfl rfl (Kw.R_fieldAddr (o' := 0) (k := 0) rfl Tryd.underlying30 rfl F.sz3 rfl) ?_
  refine Kw.WL_v rfl rfl rfl (Kw.R_load1 (v := .int .i64 kd) rfl Tryd.underlying3 rfl A_gx rfl) ?_
  by_cases c5 : (kd : Int) < 1
  ·
    refine Kw.WL_v rfl rfl rfl (Kw.R_lss (z := true) rfl rfl (decide_eq_true c5)) ?_
    refine Kw.WL_v rfl rfl rfl (Kw.R_move rfl) ?_
    refine Kw.WL_off rfl rfl rfl ?_
    refine Kw.WL_off rfl rfl rfl ?_
    refine Kw.WL_off rfl rfl rfl ?_
    refine Kw.WL_v rfl rfl rfl (Kw.R_pickt rfl rfl) ?_
    refine Kw.WL_nil ?_
    refine hK4 _ _ ?_; clear hK4 K4
    refine Kw.WC_sub (l' := [(1, .pointer (some ⟨gx, 0, none⟩)), (14, .bool true)]) (Kw.Sub.cons rfl (Kw.Sub.cons rfl Kw.Sub.nil)) ?_
    refine Kw.WC_true rfl ?_
    refine Kw.WC_seq (fun K6 hK6 => ?_)
    refine Kw.WC_region [some 2] rfl ?_
    refine Kw.WL_v rfl rfl rfl (Kw.R_assign rfl) ?_
    refine Kw.WL_nil ?_
    refine hK6 _ _ ?_; clear hK6 K6
    refine Kw.WC_ret ?_
    refine Kw.QR_then ?_; clear hK3 K3
    exact Kw.post_ret1 rfl rfl ⟨by rw [← lineB_bad (x := ⟨kd, a, b, c, t⟩) (fun h => by have h1 : 1 ≤ kd := h.1; omega)], HB⟩
  ·
    refine Kw.WL_v rfl rfl rfl (Kw.R_lss (z := false) rfl rfl (decide_eq_false c5)) ?_
    refine Kw.WL_v rfl rfl rfl (Kw.R_move rfl) ?_
    refine Kw.WL_v rfl rfl rfl (Kw.R_fieldAddr (o' := 0) (k := 0) rfl Tryd.underlying30 rfl F.sz3 rfl) ?_
    refine Kw.WL_v rfl rfl rfl (Kw.R_load1 (v := .int .i64 kd) rfl Tryd.underlying3 rfl A_gx rfl) ?_
    by_cases c7 : (13 : Int) < kd
    ·
      refine Kw.WL_v rfl rfl rfl (Kw.R_gtr (z := true) rfl rfl (decide_eq_true c7)) ?_
      refine Kw.WL_v rfl rfl rfl (Kw.R_pickf rfl rfl) ?_
      refine Kw.WL_nil ?_
      refine hK4 _ _ ?_; clear hK4 K4
      refine Kw.WC_sub (l' := [(1, .pointer (some ⟨gx, 0, none⟩)), (14, .bool true)]) (Kw.Sub.cons rfl (Kw.Sub.cons rfl Kw.Sub.nil)) ?_
      refine Kw.WC_true rfl ?_
      refine Kw.WC_seq (fun K8 hK8 => ?_)
      refine Kw.WC_region [some 2] rfl ?_
      refine Kw.WL_v rfl rfl rfl (Kw.R_assign rfl) ?_
      refine Kw.WL_nil ?_
      refine hK8 _ _ ?_; clear hK8 K8
      refine Kw.WC_ret ?_
      refine Kw.QR_then ?_; clear hK3 K3
      exact Kw.post_ret1 rfl rfl ⟨by rw [← lineB_bad (x := ⟨kd, a, b, c, t⟩) (fun h => by have h1 : kd ≤ 13 := h.2; omega)], HB⟩
    ·
      refine Kw.WL_v rfl rfl rfl (Kw.R_gtr (z := false) rfl rfl (decide_eq_false c7)) ?_
      obtain ⟨k, rfl⟩ : ∃ k : Nat, kd = k := ⟨kd.toNat, by omega⟩
      have hg : good ⟨(k : Int), a, b, c, t⟩ := ⟨by dsimp only; omega, by dsimp only; omega⟩
      obtain ⟨tx, htx⟩ : ∃ z, txtB k = z := ⟨_, rfl⟩
      have hn3 := numsN_le k
      have hwl := words_len ⟨(k : Int), a, b, c, t⟩
      have hwn := words_n ⟨(k : Int), a, b, c, t⟩
      dsimp only at hwl
      refine Kw.WL_v rfl rfl rfl (Kw.R_pickf rfl rfl) ?_
      refine Kw.WL_nil ?_
      refine hK4 _ _ ?_; clear hK4 K4
      refine Kw.WC_sub (l' := [(1, .pointer (some ⟨gx, 0, none⟩)), (14, .bool false)]) (Kw.Sub.cons rfl (Kw.Sub.cons rfl Kw.Sub.nil)) ?_
      refine Kw.WC_false rfl ?_
      refine Kw.WC_skip ?_
      refine hK3 _ _ ?_; clear hK3 K3
      refine Kw.WC_seq (fun K9 hK9 => ?_)
      refine Kw.WC_region [some 15, some 16, some 17, some 18, some 3, none] rfl ?_
      refine Kw.WL_v rfl rfl rfl (Kw.R_fieldAddr (o' := 0) (k := 0) rfl Tryd.underlying30 rfl F.sz3 rfl) ?_
      refine Kw.WL_v rfl rfl rfl (Kw.R_load1 (v := .int .i64 (k : Int)) rfl Tryd.underlying3 rfl A_gx rfl) ?_
      refine Kw.WL_v rfl rfl rfl (Kw.R_indexAddrA (i := k) (o' := k * 3) rfl rfl Tryd.underlying60 F.sz59 (by omega) (by omega)) ?_
      refine Kw.WL_v rfl rfl rfl (Kw.R_loadcs (ds := #[.string ⟨(wordL k).toArray⟩, .int .i64 (numsN k : Int), .bool tx]) rfl Tryd.underlying59 rfl (by exact F.sz59) (fun j v hv => (GG.below HB).tab (k * 3 + j) v (tab_at (by omega) j v (by rw [← htx] at hv; exact hv)))) ?_
      refine Kw.WL_alloc rfl rfl F.zr59 ?_; intro gu w10 N_gu
      have L_gx_gu := N_gu.ne A_gx; replace A_gx := N_gu.keep A_gx
      have A_gu : Kw.At w10 gu F.Z59 59 := N_gu.at_
      have G_gu := N_gu.ge HB (Nat.le_refl _); replace HB := N_gu.below HB (Nat.le_refl _); clear N_gu
      refine Kw.WL_storeW rfl rfl rfl (by exact F.sz59) A_gu rfl rfl ?_; intro w11 M_gu
      replace A_gx := M_gu.keep A_gx (Nat.ne_of_lt L_gx_gu)
      replace A_gu : Kw.At w11 gu #[.string ⟨(wordL k).toArray⟩, .int .i64 (numsN k : Int), .bool tx] 59 := M_gu.at_ A_gu
      replace HB := M_gu.below HB G_gu; clear M_gu
      refine Kw.WL_nil ?_
      refine hK9 _ _ ?_; clear hK9 K9
      refine Kw.WC_seq (fun K12 hK12 => ?_)
      refine Kw.WC_region [some 19, some 20, some 21, some 4] rfl ?_
      refine Kw.WL_v rfl rfl rfl (Kw.R_fieldAddr (o' := 0) (k := 0) rfl Tryd.underlying59 rfl F.sz9 rfl) ?_
      refine Kw.WL_v rfl rfl rfl (Kw.R_load1 (v := .string ⟨(wordL k).toArray⟩) rfl Tryd.underlying9 rfl A_gu rfl) ?_
      obtain ⟨gw, w13, N_gw⟩ : ∃ b_ w2_, Kw.Newb w11 b_ #[.string ⟨(wordL k).toArray⟩] 9 w2_ := ⟨_, _, rfl, rfl⟩
      refine Kw.WL_v rfl rfl rfl (Kw.R_buildSlice rfl (fun w => by kernel_rfl) N_gw) ?_
      have L_gx_gw := N_gw.ne A_gx; replace A_gx := N_gw.keep A_gx
      have L_gu_gw := N_gw.ne A_gu; replace A_gu := N_gw.keep A_gu
      have A_gw : Kw.At w13 gw #[.string ⟨(wordL k).toArray⟩] 9 := N_gw.at_
      have G_gw := N_gw.ge HB (Nat.le_refl _); replace HB := N_gw.below HB (Nat.le_refl _); clear N_gw
      obtain ⟨v0, hev0⟩ : ∃ x : Value, x = .slice (some ⟨gw, 0, none⟩) 1 1 := ⟨_, rfl⟩
      have O_v0 : Kw.Own w13 w.heap.size 9 1 v0 1 ([.string ⟨(wordL k).toArray⟩]) := by rw [hev0]; exact Kw.Own.whole G_gw A_gw (by unfold maxLen; omega) rfl
      have D_v0_gx : Kw.ob v0 ≠ some gx := by rw [hev0]; intro h; cases h; exact absurd rfl (Nat.ne_of_gt L_gx_gw)
      have D_v0_gu : Kw.ob v0 ≠ some gu := by rw [hev0]; intro h; cases h; exact absurd rfl (Nat.ne_of_gt L_gu_gw)
      clear A_gw
      refine Kw.WL_sub (l' := [(21, v0), (1, .pointer (some ⟨gx, 0, none⟩)), (14, .bool false), (15, .pointer (some ⟨gx, 0, none⟩)), (16, .int .i64 (k : Int)), (17, .pointer (some ⟨0, k * 3, none⟩)), (18, .agg #[.string ⟨(wordL k).toArray⟩, .int .i64 (numsN k : Int), .bool tx]), (3, .pointer (some ⟨gu, 0, none⟩)), (19, .pointer (some ⟨gu, 0, none⟩)), (20, .string ⟨(wordL k).toArray⟩)]) (by rw [hev0]; exact (Kw.Sub.cons rfl (Kw.Sub.cons rfl (Kw.Sub.cons rfl (Kw.Sub.cons rfl (Kw.Sub.cons rfl (Kw.Sub.cons rfl (Kw.Sub.cons rfl (Kw.Sub.cons rfl (Kw.Sub.cons rfl (Kw.Sub.cons rfl Kw.Sub.nil))))))))))) ?_
      refine Kw.WL_v rfl rfl rfl (Kw.R_assign rfl) ?_
      refine Kw.WL_nil ?_
      refine hK12 _ _ ?_; clear hK12 K12
      refine Kw.WC_sub (l' := [(1, .pointer (some ⟨gx, 0, none⟩)), (3, .pointer (some ⟨gu, 0, none⟩)), (4, v0)]) (Kw.Sub.cons rfl (Kw.Sub.cons rfl (Kw.Sub.cons rfl Kw.Sub.nil))) ?_
      refine Kw.WC_seq (fun K14 hK14 => ?_)
      refine Kw.WC_seq (fun K15 hK15 => ?_)
      refine Kw.WC_region [some 22, some 23, some 24, some 25, some 26, some 27, some 28, some 29, some 30, some 31, some 32, some 33] rfl ?_
      refine Kw.WL_v rfl rfl rfl (Kw.R_fieldAddr (o' := 1) (k := 0) rfl Tryd.underlying30 rfl F.sz3 rfl) ?_
      refine Kw.WL_v rfl rfl rfl (Kw.R_load1 (v := .int .i64 a) rfl Tryd.underlying3 rfl A_gx rfl) ?_
      refine Kw.WL_v rfl rfl rfl (Kw.R_fieldAddr (o' := 2) (k := 0) rfl Tryd.underlying30 rfl F.sz3 rfl) ?_
      refine Kw.WL_v rfl rfl rfl (Kw.R_load1 (v := .int .i64 b) rfl Tryd.underlying3 rfl A_gx rfl) ?_
      refine Kw.WL_v rfl rfl rfl (Kw.R_fieldAddr (o' := 3) (k := 0) rfl Tryd.underlying30 rfl F.sz3 rfl) ?_
      refine Kw.WL_v rfl rfl rfl (Kw.R_load1 (v := .int .i64 c) rfl Tryd.underlying3 rfl A_gx rfl) ?_
      obtain ⟨gn, w16, N_gn⟩ : ∃ b_ w2_, Kw.Newb w13 b_ #[.int .i64 a, .int .i64 b, .int .i64 c] 3 w2_ := ⟨_, _, rfl, rfl⟩
      refine Kw.WL_v rfl rfl rfl (Kw.R_buildSlice rfl (fun w => by kernel_rfl) N_gn) ?_
      have L_gx_gn := N_gn.ne A_gx; replace A_gx := N_gn.keep A_gx
      have L_gu_gn := N_gn.ne A_gu; replace A_gu := N_gn.keep A_gu
      have A_gn : Kw.At w16 gn #[.int .i64 a, .int .i64 b, .int .i64 c] 3 := N_gn.at_
      have D_v0_gn := O_v0.ne_new N_gn; replace O_v0 := O_v0.new N_gn
      have G_gn := N_gn.ge HB (Nat.le_refl _); replace HB := N_gn.below HB (Nat.le_refl _); clear N_gn
      refine Kw.WL_v rfl rfl rfl (Kw.R_fieldAddr (o' := 1) (k := 0) rfl Tryd.underlying59 rfl F.sz3 rfl) ?_
      refine Kw.WL_v rfl rfl rfl (Kw.R_load1 (v := .int .i64 (numsN k : Int)) rfl Tryd.underlying3 rfl A_gu rfl) ?_
      refine Kw.WL_v rfl rfl rfl (Kw.R_slicel (i := 0) (j := numsN k) (m := 3) (o' := 0) rfl Tryd.underlying62 F.sz3 rfl ⟨_, rfl⟩ rfl (by omega) (by omega) (by omega) rfl (by simp)) ?_
      refine Kw.WL_v rfl rfl rfl (Kw.R_lenl Tryd.underlying62 rfl) ?_
      refine Kw.WL_v rfl rfl rfl (Kw.R_move rfl) ?_
      refine Kw.WL_nil ?_
      refine hK15 _ _ ?_; clear hK15 K15
      refine Kw.WC_sub (l' := [(1, .pointer (some ⟨gx, 0, none⟩)), (3, .pointer (some ⟨gu, 0, none⟩)), (4, v0), (31, .slice (some ⟨gn, 0, none⟩) (numsN k) 3), (32, .int .i64 (numsN k : Int)), (33, .int .i64 0)]) (Kw.Sub.cons rfl (Kw.Sub.cons rfl (Kw.Sub.cons rfl (Kw.Sub.cons rfl (Kw.Sub.cons rfl (Kw.Sub.cons rfl Kw.Sub.nil)))))) ?_
      refine Kw.WC_block ?_
      refine Kw.WC_loop (ι := Nat × Value) (fun (q : Nat × Value) (ww : World) => match q with | ⟨i, v⟩ => (i ≤ numsN k) ∧ Kw.At ww gx #[.int .i64 (k : Int), .int .i64 a, .int .i64 b, .int .i64 c, .string t] 30 ∧ Kw.At ww gu #[.string ⟨(wordL k).toArray⟩, .int .i64 (numsN k : Int), .bool tx] 59 ∧ Kw.At ww gn #[.int .i64 a, .int .i64 b, .int .i64 c] 3 ∧ Kw.Own ww w.heap.size 9 1 v (i + 1) (wsV (wordL k :: ([a, b, c].take i).map itoaL)) ∧ Kw.ob v ≠ some gx ∧ Kw.ob v ≠ some gu ∧ Kw.ob v ≠ some gn ∧ Below w.heap.size w ww) (fun (q : Nat × Value) => match q with | ⟨i, v⟩ => [(1, .pointer (some ⟨gx, 0, none⟩)), (3, .pointer (some ⟨gu, 0, none⟩)), (4, v), (31, .slice (some ⟨gn, 0, none⟩) (numsN k) 3), (32, .int .i64 (numsN k : Int)), (33, .int .i64 (i : Int))]) (fun (q : Nat × Value) => match q with | ⟨i, v⟩ => numsN k - i) (0, v0) ⟨Nat.zero_le _, A_gx, A_gu, A_gn, O_v0, D_v0_gx, D_v0_gu, D_v0_gn, HB⟩ (Kw.Sub.cons rfl (Kw.Sub.cons rfl (Kw.Sub.cons rfl (Kw.Sub.cons rfl (Kw.Sub.cons rfl (Kw.Sub.cons rfl Kw.Sub.nil)))))) ?_
      clear A_gx
      clear A_gu
      clear A_gn
      clear O_v0
      clear HB
      rintro ⟨i, v⟩ w17 ⟨hi, A_gx, A_gu, A_gn, O_v, D_v_gx, D_v_gu, D_v_gn, HB⟩
      dsimp only at *
      refine Kw.WC_seq (fun K18 hK18 => ?_)
      refine Kw.WC_region [some 34] rfl ?_
      by_cases c19 : (i : Int) < (numsN k : Int)
      ·
        refine Kw.WL_v rfl rfl rfl (Kw.R_lss (z := true) rfl rfl (decide_eq_true c19)) ?_
        refine Kw.WL_nil ?_
        refine hK18 _ _ ?_; clear hK18 K18
        refine Kw.WC_seq (fun K20 hK20 => ?_)
        refine Kw.WC_true rfl ?_
        refine Kw.WC_skip ?_
        refine hK20 _ _ ?_; clear hK20 K20
        refine Kw.WC_seq (fun K21 hK21 => ?_)
        refine Kw.WC_block ?_
        refine Kw.WC_seq (fun K22 hK22 => ?_)
        refine Kw.WC_region [some 35, some 36, some 6] rfl ?_
        refine Kw.WL_v rfl rfl rfl (Kw.R_indexAddrS (i := i) (o' := i) rfl rfl Tryd.underlying62 F.sz3 (by omega) (by omega)) ?_
        refine Kw.WL_v rfl rfl rfl (Kw.R_load1 (v := .int .i64 (abc a b c i)) rfl Tryd.underlying3 rfl A_gn (abc_at a b c i (by omega))) ?_
        refine Kw.WL_v rfl rfl rfl (Kw.R_assign rfl) ?_
        refine Kw.WL_nil ?_
        refine hK22 _ _ ?_; clear hK22 K22
        refine Kw.WC_region [some 37, some 38, some 39, some 40, some 41, some 4] rfl ?_
        refine Kw.WL_v rfl rfl rfl (Kw.R_move rfl) ?_
        refine Kw.WL_v rfl rfl rfl (Kw.R_move rfl) ?_
        refine Kw.WL_callc rfl rfl rfl rfl F.cl22 rfl (itoa_c (abc a b c i) (abc_i64 ok.2.1 ok.2.2.1 ok.2.2.2 i) w17 (GG.below HB)) ?_; intro w23 bw23
        replace A_gx := A_gx.call bw23
        replace A_gu := A_gu.call bw23
        replace A_gn := A_gn.call bw23
        replace HB := Kw.Below.then HB (Nat.le_refl _) bw23
        replace O_v := O_v.call bw23
        clear bw23
        obtain ⟨gb, w24, N_gb⟩ : ∃ b_ w2_, Kw.Newb w23 b_ #[.string ⟨(itoaL (abc a b c i)).toArray⟩] 9 w2_ := ⟨_, _, rfl, rfl⟩
        refine Kw.WL_v rfl rfl rfl (Kw.R_buildSlice rfl (fun w => by kernel_rfl) N_gb) ?_
        have L_gx_gb := N_gb.ne A_gx; replace A_gx := N_gb.keep A_gx
        have L_gu_gb := N_gb.ne A_gu; replace A_gu := N_gb.keep A_gu
        have L_gn_gb := N_gb.ne A_gn; replace A_gn := N_gb.keep A_gn
        have A_gb : Kw.At w24 gb #[.string ⟨(itoaL (abc a b c i)).toArray⟩] 9 := N_gb.at_
        have D_v_gb := O_v.ne_new N_gb; replace O_v := O_v.new N_gb
        have G_gb := N_gb.ge HB (Nat.le_refl _); replace HB := N_gb.below HB (Nat.le_refl _); clear N_gb
        refine Kw.WL_append rfl rfl rfl rfl Tryd.underlying61 Tryd.underlying61 (.inr ⟨_, rfl⟩) F.sz9 F.by9 F.ze9 rfl O_v (Kw.News.row (news := [.string ⟨(itoaL (abc a b c i)).toArray⟩]) A_gb rfl rfl (by simp [Value.oneCell'])) (by unfold maxLen; omega) (by omega) HB.size ?_; intro v41 w25 O_v41 R_v41
        have D_v41_gx := R_v41.ne A_gx D_v_gx
        replace A_gx := R_v41.keep A_gx D_v_gx
        have D_v41_gu := R_v41.ne A_gu D_v_gu
        replace A_gu := R_v41.keep A_gu D_v_gu
        have D_v41_gn := R_v41.ne A_gn D_v_gn
        replace A_gn := R_v41.keep A_gn D_v_gn
        have D_v41_gb := R_v41.ne A_gb D_v_gb
        replace A_gb := R_v41.keep A_gb D_v_gb
        replace HB := R_v41.below HB (Nat.le_refl _) (fun g hg => O_v.ge hg); clear R_v41
        replace O_v41 : Kw.Own w25 w.heap.size 9 1 v41 (i + 1 + 1) (wsV (wordL k :: ([a, b, c].take (i + 1)).map itoaL)) := by rw [abc_list a b c i (by omega), List.map_append, ← List.cons_append, wsV_app]; exact O_v41
        clear O_v
        clear A_gb
        refine Kw.WL_v rfl rfl rfl (Kw.R_assign rfl) ?_
        refine Kw.WL_nil ?_
        refine Kw.QN_block ?_
        refine hK21 _ _ ?_; clear hK21 K21
        refine Kw.WC_sub (l' := [(1, .pointer (some ⟨gx, 0, none⟩)), (3, .pointer (some ⟨gu, 0, none⟩)), (4, v41), (31, .slice (some ⟨gn, 0, none⟩) (numsN k) 3), (32, .int .i64 (numsN k : Int)), (33, .int .i64 (i : Int))]) (Kw.Sub.cons rfl (Kw.Sub.cons rfl (Kw.Sub.cons rfl (Kw.Sub.cons rfl (Kw.Sub.cons rfl (Kw.Sub.cons rfl Kw.Sub.nil)))))) ?_
        refine Kw.WC_region [some 42, some 33] rfl ?_
        refine Kw.WL_v rfl rfl rfl (Kw.R_add (c := ((i + 1 : Nat) : Int)) rfl rfl (by rw [Kw.wrap_i64 (by omega)]; omega)) ?_
        refine Kw.WL_v rfl rfl rfl (Kw.R_move rfl) ?_
        refine Kw.WL_nil ?_
        refine Kw.QN_round ((i + 1, v41)) ⟨by (try dsimp only); omega, A_gx, A_gu, A_gn, O_v41, D_v41_gx, D_v41_gu, D_v41_gn, HB⟩ (by dsimp only; omega) (Kw.Sub.cons rfl (Kw.Sub.cons rfl (Kw.Sub.cons rfl (Kw.Sub.cons rfl (Kw.Sub.cons rfl (Kw.Sub.cons rfl Kw.Sub.nil))))))
      ·
        refine Kw.WL_v rfl rfl rfl (Kw.R_lss (z := false) rfl rfl (decide_eq_false c19)) ?_
        obtain rfl : i = (numsN k) := by omega
        refine Kw.WL_nil ?_
        refine hK18 _ _ ?_; clear hK18 K18
        refine Kw.WC_seq (fun K26 hK26 => ?_)
        refine Kw.WC_false rfl ?_
        refine Kw.WC_exit ?_
        refine Kw.QE_then ?_; clear hK26 K26
        refine Kw.QE_then ?_
        refine Kw.QE_here ?_
        refine hK14 _ _ ?_; clear hK14 K14
        refine Kw.WC_seq (fun K27 hK27 => ?_)
        refine Kw.WC_seq (fun K28 hK28 => ?_)
        refine Kw.WC_region [some 43, some 44] rfl ?_
        refine Kw.WL_v rfl rfl rfl (Kw.R_fieldAddr (o' := 2) (k := 0) rfl Tryd.underlying59 rfl F.sz4 rfl) ?_
        refine Kw.WL_v rfl rfl rfl (Kw.R_load1 (v := .bool tx) rfl Tryd.underlying4 rfl A_gu rfl) ?_
        refine Kw.WL_nil ?_
        refine hK28 _ _ ?_; clear hK28 K28
        refine Kw.WC_sub (l' := [(1, .pointer (some ⟨gx, 0, none⟩)), (4, v), (44, .bool tx)]) (Kw.Sub.cons rfl (Kw.Sub.cons rfl (Kw.Sub.cons rfl Kw.Sub.nil))) ?_
        refine Kw.WC_cond rfl (fun q29 => ?_) (fun q29 => ?_)
        ·
          subst q29
          refine Kw.WC_region [some 45, some 46, some 47, some 48, some 49, some 50, some 4] rfl ?_
          refine Kw.WL_v rfl rfl rfl (Kw.R_move rfl) ?_
          refine Kw.WL_v rfl rfl rfl (Kw.R_fieldAddr (o' := 4) (k := 0) rfl Tryd.underlying30 rfl F.sz9 rfl) ?_
          refine Kw.WL_v rfl rfl rfl (Kw.R_load1 (v := .string t) rfl Tryd.underlying9 rfl A_gx rfl) ?_
          refine Kw.WL_callc rfl rfl rfl rfl F.cl23 rfl (hex_c t (by omega) w17) ?_; intro w30 bw30
          replace A_gx := A_gx.call bw30
          replace A_gu := A_gu.call bw30
          replace A_gn := A_gn.call bw30
          replace HB := Kw.Below.then HB (Nat.le_refl _) bw30
          replace O_v := O_v.call bw30
          clear bw30
          obtain ⟨gh, w31, N_gh⟩ : ∃ b_ w2_, Kw.Newb w30 b_ #[.string (bA (hexL t.data.toList))] 9 w2_ := ⟨_, _, rfl, rfl⟩
          refine Kw.WL_v rfl rfl rfl (Kw.R_buildSlice rfl (fun w => by kernel_rfl) N_gh) ?_
          have L_gx_gh := N_gh.ne A_gx; replace A_gx := N_gh.keep A_gx
          have L_gu_gh := N_gh.ne A_gu; replace A_gu := N_gh.keep A_gu
          have L_gn_gh := N_gh.ne A_gn; replace A_gn := N_gh.keep A_gn
          have A_gh : Kw.At w31 gh #[.string (bA (hexL t.data.toList))] 9 := N_gh.at_
          have D_v_gh := O_v.ne_new N_gh; replace O_v := O_v.new N_gh
          have G_gh := N_gh.ge HB (Nat.le_refl _); replace HB := N_gh.below HB (Nat.le_refl _); clear N_gh
          refine Kw.WL_append rfl rfl rfl rfl Tryd.underlying61 Tryd.underlying61 (.inr ⟨_, rfl⟩) F.sz9 F.by9 F.ze9 rfl O_v (Kw.News.row (news := [.string (bA (hexL t.data.toList))]) A_gh rfl rfl (by simp [Value.oneCell'])) (by unfold maxLen; omega) (by omega) HB.size ?_; intro v50 w32 O_v50 R_v50
          have D_v50_gx := R_v50.ne A_gx D_v_gx
          replace A_gx := R_v50.keep A_gx D_v_gx
          have D_v50_gu := R_v50.ne A_gu D_v_gu
          replace A_gu := R_v50.keep A_gu D_v_gu
          have D_v50_gn := R_v50.ne A_gn D_v_gn
          replace A_gn := R_v50.keep A_gn D_v_gn
          have D_v50_gh := R_v50.ne A_gh D_v_gh
          replace A_gh := R_v50.keep A_gh D_v_gh
          replace HB := R_v50.below HB (Nat.le_refl _) (fun g hg => O_v.ge hg); clear R_v50
          replace O_v50 : Kw.Own w32 w.heap.size 9 1 v50 (numsN k + 1 + 1) (wsV (wordsOf ⟨(k : Int), a, b, c, t⟩)) := by rw [words_t htx, wsV_app]; exact O_v50
          clear O_v
          clear A_gh
          refine Kw.WL_v rfl rfl rfl (Kw.R_assign rfl) ?_
          refine Kw.WL_nil ?_
          refine hK27 _ _ ?_; clear hK27 K27
          refine Kw.WC_sub (l' := [(4, v50)]) (Kw.Sub.cons rfl Kw.Sub.nil) ?_
          refine Kw.WC_seq (fun K33 hK33 => ?_)
          refine Kw.WC_region [some 51, some 52, some 53, some 2] rfl ?_
          refine Kw.WL_v rfl rfl rfl (Kw.R_move rfl) ?_
          refine Kw.WL_callc rfl rfl rfl rfl F.cl24 rfl (join_w _ _ _ (wordsOf ⟨(k : Int), a, b, c, t⟩) w32 O_v50 (by have := congrArg List.length (words_t (a := a) (b := b) (c := c) (t := t) htx); simp only [List.length_append, List.length_cons, List.length_nil, List.length_map, List.length_take] at this; omega) (by omega) (by omega)) ?_; intro w34 bw34
          replace A_gx := A_gx.call bw34
          replace A_gu := A_gu.call bw34
          replace A_gn := A_gn.call bw34
          replace HB := Kw.Below.then HB (Nat.le_refl _) bw34
          replace O_v50 := O_v50.call bw34
          clear bw34
          refine Kw.WL_v rfl rfl rfl (Kw.R_adds (r := (lineB ⟨(k : Int), a, b, c, t⟩)) rfl rfl (by rw [bA_size]; show _ + 1 ≤ _; omega) (lineB_good hg)) ?_
          refine Kw.WL_v rfl rfl rfl (Kw.R_assign rfl) ?_
          refine Kw.WL_nil ?_
          refine hK33 _ _ ?_; clear hK33 K33
          refine Kw.WC_ret ?_
          exact Kw.post_ret1 rfl rfl ⟨rfl, HB⟩
        ·
          subst q29
          refine Kw.WC_skip ?_
          refine hK27 _ _ ?_; clear hK27 K27
          refine Kw.WC_seq (fun K35 hK35 => ?_)
          refine Kw.WC_region [some 51, some 52, some 53, some 2] rfl ?_
          refine Kw.WL_v rfl rfl rfl (Kw.R_move rfl) ?_
          rw [← words_f (t := t) htx] at O_v
          refine Kw.WL_callc rfl rfl rfl rfl F.cl24 rfl (join_w _ _ _ (wordsOf ⟨(k : Int), a, b, c, t⟩) w17 O_v (by have := congrArg List.length (words_f (a := a) (b := b) (c := c) (t := t) htx); simp only [List.length_append, List.length_cons, List.length_nil, List.length_map, List.length_take] at this; omega) (by omega) (by omega)) ?_; intro w36 bw36
          replace A_gx := A_gx.call bw36
          replace A_gu := A_gu.call bw36
          replace A_gn := A_gn.call bw36
          replace HB := Kw.Below.then HB (Nat.le_refl _) bw36
          replace O_v := O_v.call bw36
          clear bw36
          refine Kw.WL_v rfl rfl rfl (Kw.R_adds (r := (lineB ⟨(k : Int), a, b, c, t⟩)) rfl rfl (by rw [bA_size]; show _ + 1 ≤ _; omega) (lineB_good hg)) ?_
          refine Kw.WL_v rfl rfl rfl (Kw.R_assign rfl) ?_
          refine Kw.WL_nil ?_
          refine hK35 _ _ ?_; clear hK35 K35
          refine Kw.WC_sub (l' := [(2, .string (lineB ⟨(k : Int), a, b, c, t⟩))]) (Kw.Sub.cons rfl Kw.Sub.nil) ?_
          refine Kw.WC_ret ?_
          exact Kw.post_ret1 rfl rfl ⟨rfl, HB⟩
end Go.Proofs.YtpggmnomcahijaaDoor.Fn
