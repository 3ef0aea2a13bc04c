/- Opening a row of steps that came in. -/
import Derived.Test.YtpggmnomcahijaaDoorOp
import Derived.Test.YtpggmnomcahijaaDoorSq
import Derived.SliceStrings
import Derived.SizedLaws
namespace Go.Proofs.YtpggmnomcahijaaDoor.Fn
open Go Go.Proofs Go.RowKit Go.ChangeShapes Go.WideShapes Go.ChangeAt
set_option linter.unusedVariables false
set_option linter.unusedSimpArgs false
set_option maxRecDepth 1000000 in
theorem open_slice {H : Type} {enc : TypeId × Value → H} {W : World} {v : Value} {d : DataW H} {p : List MemPlace} {b0 t e k : Nat} (ht : Tryd.prog.underlying t = some (.slice e)) (hc : Tryd.prog.cellsOf e = k) (hk : 0 < k)
    (hv : Value.okWide Tryd.prog W .any b0 t v) (h : DataW.Trod enc Tryd.prog W 0 (fun _ => true) true t v d p) :
    ∃ a len cap, v = .slice a len cap ∧ len ≤ maxLen ∧ (len = 0 ∨ ∃ g o, a = some ⟨g, o, none⟩ ∧ ∀ i, i < len → ∃ cs x n, W.cells? 0 ⟨g, o + i * k, none⟩ k = some cs ∧ DataW.trod enc Tryd.prog W 0 (fun _ => true) true n e cs = some x) := by
  obtain ⟨a, len, cap, rfl⟩ := okWide_slice ht hv
  obtain ⟨fuel, hf⟩ := h
  rcases DataW.trod_slice ht hf with ⟨hcs, _⟩ | ⟨a', len', cap', elems, rest, n, _, hcs, _, hb, hl, hm, hlen, hel, _, _⟩
  · simp only [Value.cells, List.cons.injEq, Value.slice.injEq, and_true] at hcs
    obtain ⟨rfl, rfl, rfl⟩ := hcs
    exact ⟨none, 0, 0, rfl, Nat.zero_le _, .inl rfl⟩
  · simp only [Value.cells, List.cons.injEq, Value.slice.injEq, and_true] at hcs
    obtain ⟨rfl, rfl, rfl⟩ := hcs
    refine ⟨some a', len, cap, rfl, Nat.le_trans hl hm, ?_⟩
    rcases Nat.eq_zero_or_pos len with h0 | h0
    · exact .inl h0
    · right
      rw [hc] at hel
      have get : ∀ i, i < len → ∃ cs x, W.cells? 0 (a'.add (i * k)) k = some cs ∧ DataW.trod enc Tryd.prog W 0 (fun _ => true) true n e cs = some x := fun i hi => by
        have h1 := hel i hi
        rw [List.getElem?_eq_getElem (by omega), Option.bind_eq_some_iff] at h1
        obtain ⟨cs, h2, h3⟩ := h1
        exact ⟨cs, _, h2, h3⟩
      obtain ⟨cs0, x0, hc0, _⟩ := get 0 h0
      obtain ⟨_, hl0, hcell0⟩ := World.cells?_some hc0
      have hsp : a'.spot = none := by
        have c0 := hcell0 0 hk
        rcases hc0' : W.cell? ((a'.add (0 * k)).add 0) with _ | v0
        · rw [hc0', List.getElem?_eq_getElem (by omega)] at c0; cases c0
        · simpa [Addr.add] using World.cell?_spot hc0'
      obtain ⟨g, o, sp⟩ := a'
      simp only at hsp
      subst hsp
      refine ⟨g, o, rfl, fun i hi => ?_⟩
      obtain ⟨cs, x, h1, h2⟩ := get i hi
      rw [Kw.add_off] at h1
      exact ⟨cs, x, n, h1, h2⟩
theorem pick {α : Type} (d : α) (Q : Nat → α → Prop) : ∀ n, (∀ i, i < n → ∃ z, Q i z) → ∃ L : List α, L.length = n ∧ ∀ i, i < n → Q i (L.getD i d)
  | 0, _ => ⟨[], rfl, fun i hi => absurd hi (Nat.not_lt_zero _)⟩
  | n + 1, h => by
    obtain ⟨L, hL, hQ⟩ := pick d Q n fun i hi => h i (by omega)
    obtain ⟨z, hz⟩ := h n (by omega)
    refine ⟨L ++ [z], by simp [hL], fun i hi => ?_⟩
    rw [List.getD_eq_getElem?_getD]
    by_cases e : i < n
    · have := hQ i e
      rw [List.getD_eq_getElem?_getD] at this
      rw [List.getElem?_append_left (by omega)]; exact this
    · obtain rfl : i = n := by omega
      rw [List.getElem?_append_right (by omega), hL, Nat.sub_self]; exact hz
theorem int_trod {H : Type} {enc : TypeId × Value → H} {W : World} {n : Nat} {cs : List Value} {x : DataW H × List MemPlace} (h : DataW.trod enc Tryd.prog W 0 (fun _ => true) true n 3 cs = some x) : ∃ z : Int, cs = [.int .i64 z] ∧ i64 z := by
  obtain ⟨a, e0, e2, wa⟩ := DataW.trod_int Tryd.underlying3 h
  refine ⟨a, e0, ?_⟩; unfold i64; simp [Lit.wf, IntKind.min, IntKind.max, IntKind.signed, IntKind.bits] at wa; omega
theorem len5 {α : Type} : ∀ {l : List α}, l.length = 5 → ∃ a b c d e, l = [a, b, c, d, e]
  | [a, b, c, d, e], _ => ⟨a, b, c, d, e, rfl⟩
theorem one1 {α : Type} {a b : α} (h : [a] = [b]) : a = b := by simpa using h
theorem stp_trod {H : Type} {enc : TypeId × Value → H} {W : World} {n : Nat} {cs : List Value} {x : DataW H × List MemPlace} (h : DataW.trod enc Tryd.prog W 0 (fun _ => true) true n 30 cs = some x) : ∃ y : Stp, cs = (stpCells y).toList ∧ okS y := by
  obtain ⟨xs, m, _, _, hcl, hxl, hel⟩ := DataW.trod_struct Tryd.underlying30 h
  rw [show Tryd.prog.cellsOf 30 = 5 by kernel_rfl] at hcl
  have hxl' : xs.length = 5 := hxl
  have e0 : DataW.trod enc Tryd.prog W 0 (fun _ => true) true m 3 ((cs.drop 0).take (Tryd.prog.cellsOf 3)) = xs[0]? := hel 0 _ rfl
  have e1 : DataW.trod enc Tryd.prog W 0 (fun _ => true) true m 3 ((cs.drop 1).take (Tryd.prog.cellsOf 3)) = xs[1]? := hel 1 _ rfl
  have e2 : DataW.trod enc Tryd.prog W 0 (fun _ => true) true m 3 ((cs.drop 2).take (Tryd.prog.cellsOf 3)) = xs[2]? := hel 2 _ rfl
  have e3 : DataW.trod enc Tryd.prog W 0 (fun _ => true) true m 3 ((cs.drop 3).take (Tryd.prog.cellsOf 3)) = xs[3]? := hel 3 _ rfl
  have e4 : DataW.trod enc Tryd.prog W 0 (fun _ => true) true m 9 ((cs.drop 4).take (Tryd.prog.cellsOf 9)) = xs[4]? := hel 4 _ rfl
  rw [show Tryd.prog.cellsOf 3 = 1 by kernel_rfl] at e0 e1 e2 e3
  rw [show Tryd.prog.cellsOf 9 = 1 by kernel_rfl] at e4
  rw [List.getElem?_eq_getElem (by omega)] at e0 e1 e2 e3 e4
  obtain ⟨c0, c1, c2, c3, c4, rfl⟩ := len5 hcl
  obtain ⟨z0, hz0, r0⟩ := int_trod e0
  obtain ⟨z1, hz1, r1⟩ := int_trod e1
  obtain ⟨z2, hz2, r2⟩ := int_trod e2
  obtain ⟨z3, hz3, r3⟩ := int_trod e3
  obtain ⟨s, hs, _⟩ := DataW.trod_string Tryd.underlying9 e4
  obtain rfl : c0 = _ := one1 hz0
  obtain rfl : c1 = _ := one1 hz1
  obtain rfl : c2 = _ := one1 hz2
  obtain rfl : c3 = _ := one1 hz3
  obtain rfl : c4 = _ := one1 hs
  exact ⟨⟨z0, z1, z2, z3, s⟩, rfl, r0, r1, r2, r3⟩
theorem block_lt_of_cell {W : World} {g o : Nat} {v : Value} (h : W.cell? ⟨g, o, none⟩ = some v) : g < W.heap.size := by
  rcases Nat.lt_or_ge g W.heap.size with h' | h'
  · exact h'
  · simp [World.cell?, Array.getElem?_eq_none h'] at h
set_option maxRecDepth 1000000 in
theorem open_steps {H : Type} {enc : TypeId × Value → H} {W : World} {v : Value} {d : DataW H} {p : List MemPlace} {b0 : Nat} (hv : Value.okWide Tryd.prog W .any b0 22 v) (h : DataW.Trod enc Tryd.prog W 0 (fun _ => true) true 22 v d p) :
    ∃ L, Steps W v L ∧ (∀ x ∈ L, okS x) ∧ L.length ≤ 9223372036854775807 := by
  obtain ⟨a, len, cap, rfl, hlm, hR⟩ := open_slice Tryd.underlying22 (show Tryd.prog.cellsOf 30 = 5 by kernel_rfl) (by omega) hv h
  unfold maxLen at hlm
  rcases hR with rfl | ⟨g, o, rfl, hR⟩
  · exact ⟨[], ⟨a, cap, rfl, .inl rfl⟩, (fun x hx => by cases hx), Nat.zero_le _⟩
  · obtain ⟨L, hL, hQ⟩ := pick stp0 (fun i z => (∀ (j : Nat) (v : Value), (stpCells z)[j]? = some v → W.cell? ⟨g, o + i * 5 + j, none⟩ = some v) ∧ okS z) len (fun i hi => by
      obtain ⟨cs, x, n, h1, h2⟩ := hR i hi
      obtain ⟨y, hy, hok⟩ := stp_trod h2
      obtain ⟨_, hcl, h3⟩ := World.cells?_some h1
      refine ⟨y, fun j v hj => ?_, hok⟩
      have hlt : j < 5 := (Array.getElem?_eq_some_iff.1 hj).1
      have := h3 j hlt
      rw [Kw.add_off] at this
      rw [this, hy, Array.getElem?_toList]; exact hj)
    subst hL
    have hq : ∀ i (hi : i < L.length), (∀ (j : Nat) (v : Value), (stpCells (L[i]'hi))[j]? = some v → W.cell? ⟨g, o + i * 5 + j, none⟩ = some v) ∧ okS (L[i]'hi) := fun i hi => by
      have h1 := hQ i hi
      rw [List.getD_eq_getElem?_getD, List.getElem?_eq_getElem hi] at h1
      exact h1
    refine ⟨L, ⟨_, cap, rfl, ?_⟩, fun x hx => ?_, by omega⟩
    · rcases Nat.eq_zero_or_pos L.length with h0 | h0
      · exact .inl (List.eq_nil_of_length_eq_zero h0)
      · exact .inr ⟨g, o, rfl, block_lt_of_cell ((hq 0 h0).1 0 _ rfl), fun i hi => (hq i hi).1⟩
    · obtain ⟨i, hi, rfl⟩ := List.getElem_of_mem hx
      exact (hq i hi).2

end Go.Proofs.YtpggmnomcahijaaDoor.Fn
