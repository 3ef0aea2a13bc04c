/- The sort of keys as a contract. -/
import Derived.Test.YtidoilcgdfhfiaaTm2
import Derived.Test.YtidoilcgdfhfiaaShelf
import Derived.Shelf.SlSortCmp.NoneTotal
namespace Go.Proofs.Ytidoilcgdfhfiaa.Fn
open Go Go.Proofs Go.RowKit Go.Shelf Go.Sort
set_option linter.unusedVariables false
set_option linter.unusedSimpArgs false
abbrev Key := {p : Int × Int // okK p}
instance : Inhabited Key := ⟨⟨(0, 0), by unfold okK; omega⟩⟩
def encK (x : Key) : List Value := [.int .i64 x.1.1, .int .i64 x.1.2]
/-- Keys' cells. -/
def flatP (ks : List (Int × Int)) : List Value := ks.flatMap fun p => [.int .i64 p.1, .int .i64 p.2]
theorem flatP_length (ks : List (Int × Int)) : (flatP ks).length = ks.length * 2 := by
  induction ks with
  | nil => rfl
  | cons k ks ih =>
    have e : flatP (k :: ks) = .int .i64 k.1 :: .int .i64 k.2 :: flatP ks := rfl
    rw [e, List.length_cons, List.length_cons, ih, List.length_cons]; omega
theorem flatP_get (ks : List (Int × Int)) (i : Nat) (h : i < ks.length) : (flatP ks)[2 * i]? = some (.int .i64 (ks[i]'h).1) ∧ (flatP ks)[2 * i + 1]? = some (.int .i64 (ks[i]'h).2) := by
  induction ks generalizing i with
  | nil => exact absurd h (Nat.not_lt_zero _)
  | cons k ks ih =>
    cases i with
    | zero => exact ⟨rfl, rfl⟩
    | succ i =>
      have := ih i (by simpa using h)
      have e : flatP (k :: ks) = .int .i64 k.1 :: .int .i64 k.2 :: flatP ks := rfl
      rw [e, show 2 * (i + 1) = 2 * i + 1 + 1 by omega, show 2 * i + 1 + 1 + 1 = (2 * i + 1) + 1 + 1 by omega]
      simp only [List.getElem?_cons_succ, List.getElem_cons_succ]
      exact this
theorem flatP_snoc (ks : List (Int × Int)) (k : Int × Int) : flatP (ks ++ [k]) = flatP ks ++ [.int .i64 k.1, .int .i64 k.2] := by unfold flatP; simp
/-- Which of two keys goes off first. -/
def ltK (T : List ((Int × Int) × Int)) (a b : Int × Int) : Prop := look T a < look T b ∨ (look T a = look T b ∧ (a.1 < b.1 ∨ (a.1 = b.1 ∧ a.2 < b.2)))
instance (T : List ((Int × Int) × Int)) (a b : Int × Int) : Decidable (ltK T a b) := by unfold ltK; infer_instance
theorem keyCmp_lt (T : List ((Int × Int) × Int)) (a b : Int × Int) : decide (keyCmp T a b < 0) = decide (ltK T a b) := by
  congr 1
  unfold keyCmp or3 cmpI ltK
  apply propext
  constructor
  · intro h
    by_cases h1 : look T a < look T b <;> by_cases h2 : look T b < look T a <;> by_cases h3 : a.1 < b.1 <;> by_cases h4 : b.1 < a.1 <;> by_cases h5 : a.2 < b.2 <;> by_cases h6 : b.2 < a.2 <;> simp [h1, h2, h3, h4, h5, h6] at h ⊢ <;> omega
  · intro h
    by_cases h1 : look T a < look T b <;> by_cases h2 : look T b < look T a <;> by_cases h3 : a.1 < b.1 <;> by_cases h4 : b.1 < a.1 <;> by_cases h5 : a.2 < b.2 <;> by_cases h6 : b.2 < a.2 <;> simp [h1, h2, h3, h4, h5, h6] at h ⊢ <;> omega

open Go.Sort Go.Shelf in
theorem ltOf_lt (T : List ((Int × Int) × Int)) (x y : Key) : ltOf (fun x y : Key => keyCmp T x.1 y.1) x y = decide (ltK T x.1 y.1) := keyCmp_lt T x.1 y.1
open Go.Sort in
theorem swoK (T : List ((Int × Int) × Int)) : SWO (ltOf (fun x y : Key => keyCmp T x.1 y.1)) where
  irrefl x := by rw [ltOf_lt]; unfold ltK; simp
  trans x y z h1 h2 := by rw [ltOf_lt, decide_eq_true_eq] at *; unfold ltK at *; omega
  ntrans x y z h1 h2 := by rw [ltOf_lt, decide_eq_false_iff_not] at *; unfold ltK at *; omega
theorem totK (T : List ((Int × Int) × Int)) (x y : Int × Int) (h1 : ¬ ltK T x y) (h2 : ¬ ltK T y x) : x = y := by
  unfold ltK at *; exact Prod.ext (by omega) (by omega)
theorem liftK : ∀ (ks : List (Int × Int)), (∀ k ∈ ks, okK k) → ∃ L : List Key, L.map Subtype.val = ks
  | [], _ => ⟨[], rfl⟩
  | k :: ks, h => by
    obtain ⟨L, hL⟩ := liftK ks fun q hq => h q (by simp [hq])
    exact ⟨⟨k, h k (by simp)⟩ :: L, by simp [hL]⟩
theorem encK_flat (L : List Key) (j : Nat) (h : j < L.length * 2) : (flatP (L.map Subtype.val))[j]? = some ((encK L.toArray[j / 2]!)[j % 2]!) := by
  have hj : j / 2 < L.length := by omega
  have hm : j / 2 < (L.map Subtype.val).length := by simpa using hj
  have hg := flatP_get (L.map Subtype.val) (j / 2) hm
  have e1 : L.toArray[j / 2]! = L[j / 2] := by simp [hj]
  rw [e1]
  rcases Nat.mod_two_eq_zero_or_one j with e | e
  · rw [e, show (flatP (L.map Subtype.val))[j]? = (flatP (L.map Subtype.val))[2 * (j / 2)]? by congr 1; omega, hg.1]
    simp [encK]
  · rw [e, show (flatP (L.map Subtype.val))[j]? = (flatP (L.map Subtype.val))[2 * (j / 2) + 1]? by congr 1; omega, hg.2]
    simp [encK]
theorem eg20 : ∀ args w, (callFunc 20 args).run Try.prog w = .ok (.enter 20 args) w := enters_of Try.func20 (by kernel_rfl) rfl
theorem agg29 : ∀ w, (isAgg 29).run Try.prog w = .ok true w := fun w => by kernel_rfl
theorem siz29 : ∀ w, (Go.sizeOf 29).run Try.prog w = .ok 2 w := fun w => by kernel_rfl
theorem heap_grow {w : World} {os : Array Obj} {k : Nat} (h : k < w.heap.size) : (Sort.grow w os).heap[k]? = w.heap[k]? := by
  show (w.heap ++ os)[k]? = _
  rw [Array.getElem?_append_left h]
theorem heap_sortK {w : World} {g n : Nat} {d : Array Key} {os : Array Obj} {k : Nat} (h : k < w.heap.size) (hne : k ≠ g) : (sortWorldK encK 2 w g 0 n d os).heap[k]? = w.heap[k]? := by
  unfold sortWorldK
  rw [heap_grow (by unfold putRowK; simpa using h)]
  unfold putRowK putRow mapBlock
  simp only [Array.getElem?_modify]
  rw [if_neg (fun e => hne e.symm)]
  rfl
theorem clo_lays (T : List ((Int × Int) × Int)) (bx tb mb g size : Nat) (w : World) (A_bx : Kw.At w bx #[.pointer (some ⟨tb, 0, none⟩)] 25) (A_tb : Kw.At w tb #[.map (some mb)] 52) (A_mb : TM w mb T) (n1 : bx ≠ g) (n2 : tb ≠ g) (n3 : mb ≠ g) :
    CmpLays Try.prog 20 #[.pointer (some ⟨bx, 0, none⟩)] encK 2 (fun x y : Key => keyCmp T x.1 y.1) g 0 size w := fun m os dk _ x y =>
  (clo_c x.1 y.1 x.2 y.2 bx tb mb T _ (A_bx.heap (heap_sortK A_bx.lt n1)) (A_tb.heap (heap_sortK A_tb.lt n2)) (A_mb.heap (heap_sortK A_mb.lt n3))).mono fun e w' ⟨he, q, os', hw⟩ => ⟨he, q, os', hw⟩
theorem sort_c (T : List ((Int × Int) × Int)) (v : Value) (ks : List (Int × Int)) (hok : ∀ k ∈ ks, okK k) (B bx tb mb : Nat) (w : World) (O : Kw.Own w B 29 2 v ks.length (flatP ks)) (A_bx : Kw.At w bx #[.pointer (some ⟨tb, 0, none⟩)] 25) (A_tb : Kw.At w tb #[.map (some mb)] 52) (A_mb : TM w mb T)
    (n1 : Kw.ob v ≠ some bx) (n2 : Kw.ob v ≠ some tb) (n3 : Kw.ob v ≠ some mb) (hl : ks.length < 4611686018427387904) :
    Calls Try.prog 19 #[v, .func (.func 20) #[] #[.pointer (some ⟨bx, 0, none⟩)]] w fun e w' => e = .returned (.tuple #[]) ∧ ∃ ks', ks'.Perm ks ∧ ks'.Pairwise (fun a b => ¬ ltK T b a) ∧ Kw.Own w' B 29 2 v ks.length (flatP ks') ∧ Kw.Mut (fun k => Kw.ob v = some k) w w' := by
  have hnone : ks = [] → ∀ (a : Option Addr) (cap : Nat), v = .slice a 0 cap → Calls Try.prog 19 #[v, .func (.func 20) #[] #[.pointer (some ⟨bx, 0, none⟩)]] w fun e w' => e = .returned (.tuple #[]) ∧ ∃ ks', ks'.Perm ks ∧ ks'.Pairwise (fun a b => ¬ ltK T b a) ∧ Kw.Own w' B 29 2 v ks.length (flatP ks') ∧ Kw.Mut (fun k => Kw.ob v = some k) w w' := by
    rintro rfl a cap rfl
    exact (AnyF.slices_SortFunc_none Try.sortKey a cap (.func (.func 20) #[] #[.pointer (some ⟨bx, 0, none⟩)]) w).mono fun e w' ⟨he, hw⟩ => by
      subst hw
      exact ⟨he, [], List.Perm.refl _, List.Pairwise.nil, O, Kw.Mut.refl _ _⟩
  rcases O.2 with ⟨rfl, hz⟩ | ⟨g, cap, cur, rfl, hB, hA, hn, hc, hs, ht⟩
  · exact hnone (List.eq_nil_of_length_eq_zero hz) none 0 rfl
  · by_cases hz : ks = []
    · subst hz; exact hnone rfl _ cap rfl
    · obtain ⟨L, rfl⟩ := liftK ks hok
      rw [List.length_map] at *
      have hH : HoldsK encK 2 w g 0 L.toArray := by
        intro j hj
        have hj' : j < L.length * 2 := by simpa [HoldsK] using hj
        rw [get_flatK encK 2 L.toArray j (by simpa using hj')]
        refine ⟨?_, hA.frozen _ (by rw [hs]; omega)⟩
        rw [hA.cell, Nat.zero_add, Kw.Own.cellAt ht hj']
        exact encK_flat L j hj'
      have hcon := AnyQ.slices_SortFunc_total (ρ := Try.sortKey_ren) Try.sortKey 2 agg29 siz29 encK (fun _ => rfl) (fun x v hv => by simp [encK] at hv; rcases hv with rfl | rfl <;> rfl) (fun x y : Key => keyCmp T x.1 y.1) (swoK T) 20 #[.pointer (some ⟨bx, 0, none⟩)] g 0 cap L.toArray w eg20
        (clo_lays T bx tb mb g _ w A_bx A_tb A_mb (fun e => n1 (by rw [e]; rfl)) (fun e => n2 (by rw [e]; rfl)) (fun e => n3 (by rw [e]; rfl))) hH hA.lt (by simpa using hl) (fun x y h1 h2 => by
          rw [ltOf_lt, decide_eq_false_iff_not] at h1 h2
          exact Subtype.ext (totK T _ _ h1 h2))
      have hsz : L.toArray.size = L.length := by simp
      rw [hsz] at hcon
      refine hcon.mono fun e w' ⟨he, n, os, hw⟩ => ?_
      obtain ⟨M, hM⟩ : ∃ M, M = L.mergeSort fun x y => !(ltOf (fun x y : Key => keyCmp T x.1 y.1)) y x := ⟨_, rfl⟩
      have hperm : M.Perm L := by rw [hM]; exact List.mergeSort_perm _ _
      have hpw : (M.map Subtype.val).Pairwise (fun a b => ¬ ltK T b a) := by
        rw [List.pairwise_map, hM]
        refine (List.pairwise_mergeSort (le := fun x y : Key => !(ltOf (fun x y : Key => keyCmp T x.1 y.1)) y x) ?_ ?_ L).imp ?_
        · intro a b c h1 h2
          simp only [ltOf_lt, Bool.not_eq_true', decide_eq_false_iff_not] at *
          unfold ltK at *; omega
        · intro a b
          simp only [ltOf_lt, Bool.or_eq_true, Bool.not_eq_true', decide_eq_false_iff_not]
          unfold ltK; omega
        · intro a b h
          simp only [ltOf_lt, Bool.not_eq_true', decide_eq_false_iff_not] at h
          exact h
      have hML : M.length = L.length := hperm.length_eq
      rw [← hM] at hw
      obtain ⟨fr, hb0, hfr⟩ := hA
      have hblk : g < w.heap.size := (Array.getElem?_eq_some_iff.1 hb0).1
      have hsz' : (putRowK encK 2 (Sort.ahead w n) g 0 M.toArray).heap.size = w.heap.size := by unfold putRowK; simp
      have hat : w'.heap[g]? = some (.cells (putCells id 0 (flatK encK 2 M.toArray) cur) 29 fr) := by
        rw [hw]
        unfold sortWorldK
        rw [heap_grow (by rw [hsz']; exact hblk)]
        unfold putRowK putRow mapBlock
        simp only [Array.getElem?_modify, if_true]
        show Option.map _ (w.heap[g]?) = _
        rw [hb0]; rfl
      have hcs : (putCells id 0 (flatK encK 2 M.toArray) cur).size = cur.size := by unfold putCells; simp
      refine ⟨he, M.map Subtype.val, hperm.map _, hpw, ⟨by rw [flatP_length, List.length_map, hML], .inr ⟨g, cap, _, rfl, hB, ⟨fr, hat, by rw [hcs]; exact hfr⟩, hn, hc, by rw [hcs]; exact hs, ?_⟩⟩, ?_⟩
      · apply List.ext_getElem?
        intro j
        rw [List.getElem?_take]
        by_cases hj : j < L.length * 2
        · rw [if_pos hj, encK_flat M j (by rw [hML]; exact hj), Array.getElem?_toList]
          unfold putCells
          have hjc : j < cur.size := by rw [hs]; have := Nat.mul_le_mul_right 2 hn; omega
          have hj2 : j < (flatK encK 2 M.toArray).size := by simp; omega
          rw [Array.getElem?_mapIdx, Array.getElem?_eq_getElem hjc]
          simp only [Option.map_some, Nat.zero_le, true_and, Nat.zero_add, Nat.sub_zero]
          rw [if_pos hj2, get_flatK encK 2 M.toArray j (by simpa using hj2)]; rfl
        · rw [if_neg hj, List.getElem?_eq_none (by rw [flatP_length, List.length_map, hML]; omega)]
      · rw [hw]
        refine ⟨rfl, rfl, rfl, ?_, fun k hk hnk => heap_sortK hk (fun e => hnk (by rw [e]; rfl))⟩
        unfold sortWorldK
        show w.heap.size ≤ ((putRowK encK 2 (Sort.ahead w n) g 0 M.toArray).heap ++ os).size
        rw [Array.size_append, hsz']; omega

end Go.Proofs.Ytidoilcgdfhfiaa.Fn
