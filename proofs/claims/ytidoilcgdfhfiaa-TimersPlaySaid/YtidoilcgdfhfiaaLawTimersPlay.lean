/- TimersPlay is true of every acts. No condition. -/
import Derived.Test.YtidoilcgdfhfiaaRows
import Derived.WalkKit
import Derived.ProofKit
import Derived.OpenShut
import Derived.ShutString
import Derived.ChangeOld
import Derived.Below
import Derived.Carry
import Derived.SizedLaws
import Derived.WideShapes
import Derived.Test.YtidoilcgdfhfiaaWalkPlay
namespace Go.Proofs.Ytidoilcgdfhfiaa.timersPlay
open Go Go.Proofs Go.Proofs.Ytidoilcgdfhfiaa.Fn Go.ChangeShapes Go.WideShapes Go.ChangeAt Go.RowKit
set_option linter.unusedVariables false
set_option linter.unusedSimpArgs false
open Go.WideShapes in
/-- A slice that came in, cell by cell. -/
theorem open_slice {H : Type} {enc : TypeId × Value → H} {W : World} {v : Value} {d : DataW H} {p : List MemPlace} {b0 t e k : Nat} (ht : Try.prog.underlying t = some (.slice e)) (hc : Try.prog.cellsOf e = k) (hk : 0 < k)
    (hv : Value.okWide Try.prog W .any b0 t v) (h : DataW.Trod enc Try.prog W 0 (fun _ => true) true t v d p) :
    ∃ a len cap, v = .slice a len cap ∧ len ≤ cap ∧ (len = 0 ∨ ∃ g o, a = some ⟨g, o, none⟩ ∧ ∀ i, i < len → ∃ cs x n, W.cells? 0 ⟨g, o + i * k, none⟩ k = some cs ∧ DataW.trod enc Try.prog W 0 (fun _ => true) true n e cs = some x) := by
  obtain ⟨a, len, cap, rfl⟩ := okWide_slice ht hv
  obtain ⟨fuel, hf⟩ := h
  rcases DataW.trod_slice ht hf with ⟨hcs, _⟩ | ⟨a', len', cap', elems, rest, n, _, hcs, _, hb, hl, hm, hlen, hel, _, _⟩
  · simp only [Value.cells, List.cons.injEq, Value.slice.injEq, and_true] at hcs
    obtain ⟨rfl, rfl, rfl⟩ := hcs
    exact ⟨none, 0, 0, rfl, Nat.le_refl _, .inl rfl⟩
  · simp only [Value.cells, List.cons.injEq, Value.slice.injEq, and_true] at hcs
    obtain ⟨rfl, rfl, rfl⟩ := hcs
    refine ⟨some a', len, cap, rfl, hl, ?_⟩
    rcases Nat.eq_zero_or_pos len with h0 | h0
    · exact .inl h0
    · right
      rw [hc] at hel
      have get : ∀ i, i < len → ∃ cs x, W.cells? 0 (a'.add (i * k)) k = some cs ∧ DataW.trod enc Try.prog W 0 (fun _ => true) true n e cs = some x := fun i hi => by
        have h1 := hel i hi
        rw [List.getElem?_eq_getElem (by omega), Option.bind_eq_some_iff] at h1
        obtain ⟨cs, h2, h3⟩ := h1
        exact ⟨cs, _, h2, h3⟩
      obtain ⟨cs0, x0, hc0, _⟩ := get 0 h0
      obtain ⟨_, hl0, hcell0⟩ := World.cells?_some hc0
      have hsp : a'.spot = none := by
        have c0 := hcell0 0 hk
        rcases hc0' : W.cell? ((a'.add (0 * k)).add 0) with _ | v0
        · rw [hc0', List.getElem?_eq_getElem (by omega)] at c0; cases c0
        · simpa [Addr.add] using World.cell?_spot hc0'
      obtain ⟨g, o, sp⟩ := a'
      simp only at hsp
      subst hsp
      refine ⟨g, o, rfl, fun i hi => ?_⟩
      obtain ⟨cs, x, h1, h2⟩ := get i hi
      rw [Kw.add_off] at h1
      exact ⟨cs, x, n, h1, h2⟩
theorem pick {α : Type} (d : α) (Q : Nat → α → Prop) : ∀ n, (∀ i, i < n → ∃ z, Q i z) → ∃ L : List α, L.length = n ∧ ∀ i, i < n → Q i (L.getD i d)
  | 0, _ => ⟨[], rfl, fun i hi => absurd hi (Nat.not_lt_zero _)⟩
  | n + 1, h => by
    obtain ⟨L, hL, hQ⟩ := pick d Q n fun i hi => h i (by omega)
    obtain ⟨z, hz⟩ := h n (by omega)
    refine ⟨L ++ [z], by simp [hL], fun i hi => ?_⟩
    rw [List.getD_eq_getElem?_getD]
    by_cases e : i < n
    · have := hQ i e
      rw [List.getD_eq_getElem?_getD] at this
      rw [List.getElem?_append_left (by omega)]; exact this
    · obtain rfl : i = n := by omega
      rw [List.getElem?_append_right (by omega), hL, Nat.sub_self]; exact hz
theorem u8_trod {H : Type} {enc : TypeId × Value → H} {W : World} {n : Nat} {cs : List Value} {x : DataW H × List MemPlace} (h : DataW.trod enc Try.prog W 0 (fun _ => true) true n 5 cs = some x) : ∃ z : Int, cs = [.int .u8 z] ∧ 0 ≤ z ∧ z ≤ 255 := by
  obtain ⟨a, e0, e2, wa⟩ := DataW.trod_int Try.underlying5 h
  refine ⟨a, e0, ?_, ?_⟩ <;> simp [Lit.wf, IntKind.min, IntKind.max, IntKind.signed, IntKind.bits] at wa <;> omega
theorem int_trod {H : Type} {enc : TypeId × Value → H} {W : World} {n : Nat} {cs : List Value} {x : DataW H × List MemPlace} (h : DataW.trod enc Try.prog W 0 (fun _ => true) true n 3 cs = some x) : ∃ z : Int, cs = [.int .i64 z] ∧ -9223372036854775808 ≤ z ∧ z ≤ 9223372036854775807 := by
  obtain ⟨a, e0, e2, wa⟩ := DataW.trod_int Try.underlying3 h
  refine ⟨a, e0, ?_, ?_⟩ <;> simp [Lit.wf, IntKind.min, IntKind.max, IntKind.signed, IntKind.bits] at wa <;> omega
theorem key_trod {H : Type} {enc : TypeId × Value → H} {W : World} {n : Nat} {cs : List Value} {x : DataW H × List MemPlace} (h : DataW.trod enc Try.prog W 0 (fun _ => true) true n 29 cs = some x) : ∃ k : Int × Int, cs = [.int .i64 k.1, .int .i64 k.2] ∧ okK k := by
  obtain ⟨xs, m, _, _, hcl, hxl, hel⟩ := DataW.trod_array Try.underlying29 h
  rw [show Try.prog.cellsOf 3 = 1 by kernel_rfl] at hel
  rw [show Try.prog.cellsOf 29 = 2 by kernel_rfl] at hcl
  have e0 := hel 0 (by omega)
  have e1 := hel 1 (by omega)
  rw [List.getElem?_eq_getElem (by omega)] at e0 e1
  obtain ⟨z0, hz0, r0⟩ := int_trod e0
  obtain ⟨z1, hz1, r1⟩ := int_trod e1
  match cs, hcl with
  | [y0, y1], _ =>
    simp at hz0 hz1
    subst hz0 hz1
    exact ⟨(z0, z1), rfl, r0, r1⟩
theorem act_trod {H : Type} {enc : TypeId × Value → H} {W : World} {n : Nat} {cs : List Value} {x : DataW H × List MemPlace} (h : DataW.trod enc Try.prog W 0 (fun _ => true) true n 40 cs = some x) : ∃ y : ActT, cs = (actCells y).toList ∧ okAct y := by
  obtain ⟨xs, m, _, _, hcl, hxl, hel⟩ := DataW.trod_struct Try.underlying40 h
  rw [show Try.prog.cellsOf 40 = 4 by kernel_rfl] at hcl
  have hxl' : xs.length = 3 := hxl
  have e0 : DataW.trod enc Try.prog W 0 (fun _ => true) true m 5 ((cs.drop 0).take (Try.prog.cellsOf 5)) = xs[0]? := hel 0 _ rfl
  have e1 : DataW.trod enc Try.prog W 0 (fun _ => true) true m 29 ((cs.drop 1).take (Try.prog.cellsOf 29)) = xs[1]? := hel 1 _ rfl
  have e2 : DataW.trod enc Try.prog W 0 (fun _ => true) true m 3 ((cs.drop 3).take (Try.prog.cellsOf 3)) = xs[2]? := hel 2 _ rfl
  rw [show Try.prog.cellsOf 5 = 1 by kernel_rfl] at e0
  rw [show Try.prog.cellsOf 29 = 2 by kernel_rfl] at e1
  rw [show Try.prog.cellsOf 3 = 1 by kernel_rfl] at e2
  rw [List.getElem?_eq_getElem (by omega)] at e0 e1 e2
  obtain ⟨q, hq, rq⟩ := u8_trod e0
  obtain ⟨k, hk, rk⟩ := key_trod e1
  obtain ⟨a, ha, ra⟩ := int_trod e2
  match cs, hcl with
  | [y0, y1, y2, y3], _ =>
    simp at hq hk ha
    obtain ⟨rfl, rfl⟩ := hk
    subst hq ha
    exact ⟨(q, k, a), rfl, rq, rk⟩
theorem open_acts {H : Type} {enc : TypeId × Value → H} {W : World} {v : Value} {d : DataW H} {p : List MemPlace} {b0 : Nat} (hv : Value.okWide Try.prog W .any b0 37 v) (h : DataW.Trod enc Try.prog W 0 (fun _ => true) true 37 v d p) :
    ∃ a L cap, v = .slice a L.length cap ∧ RdA W a L ∧ ∀ x ∈ L, okAct x := by
  obtain ⟨a, len, cap, rfl, _, hR⟩ := open_slice Try.underlying37 (show Try.prog.cellsOf 40 = 4 by kernel_rfl) (by omega) hv h
  rcases hR with rfl | ⟨g, o, rfl, hR⟩
  · exact ⟨a, [], cap, rfl, .inl rfl, fun x hx => by cases hx⟩
  · obtain ⟨L, hL, hQ⟩ := pick ((0, (0, 0), 0) : ActT) (fun i z => (∀ (j : Nat) (v : Value), (actCells z)[j]? = some v → W.cell? ⟨g, o + i * 4 + j, none⟩ = some v) ∧ okAct z) len (fun i hi => by
      obtain ⟨cs, x, n, h1, h2⟩ := hR i hi
      obtain ⟨y, hy, hok⟩ := act_trod h2
      obtain ⟨_, hcl, h3⟩ := World.cells?_some h1
      refine ⟨y, fun j v hj => ?_, hok⟩
      have hlt : j < 4 := (Array.getElem?_eq_some_iff.1 hj).1
      have := h3 j hlt
      rw [Kw.add_off] at this
      rw [this, hy, Array.getElem?_toList]; exact hj)
    refine ⟨_, L, cap, by rw [hL], .inr ⟨g, o, rfl, fun i hi => ?_⟩, fun x hx => ?_⟩
    · have hq := hQ i (by omega)
      rw [List.getD_eq_getElem?_getD, List.getElem?_eq_getElem hi] at hq
      refine ⟨?_, hq.1⟩
      have := hq.1 0 _ rfl
      exact block_lt_of_cell this
    · obtain ⟨i, hi, rfl⟩ := List.getElem_of_mem hx
      have hq := hQ i (by omega)
      rw [List.getD_eq_getElem?_getD, List.getElem?_eq_getElem hi] at hq
      exact hq.2

set_option maxRecDepth 100000 in
theorem lifted (os : Os) (started : os.Started) (H : Type) (enc : TypeId × Value → H) :
    ReturnsInHanded {} Try.checked os 4 .any (Rows.timersPlaySpec.pre6 enc Try.prog Try.f4 Rows.timersPlayRow.domain false) (Rows.timersPlaySpec.post enc Try.prog Try.f4 false true false false) := by
  refine returnsInHanded_of_change (C := Try.checked) (by kernel_rfl) started (by kernel_rfl) Try.func4
    (ChangeSpec.witness6 (enc := enc) (C := Try.checked) false ⟨#[], #[.slice none 0 0], []⟩ 8 (by kernel_rfl) (by kernel_rfl) (by kernel_rfl) (by kernel_rfl)) ?_
  intro W base args ds gs before hval0 hW hcnd hsz
  have hval : ∀ (j : Nat) t v, Try.f4.params[j]? = some t → args[j]? = some v → Value.okWide Try.prog W .any base t v := hval0
  have hW' := hW
  obtain ⟨p, q, hA0, hV, rfl, hfz, hnd⟩ := hW
  have hA : DataW.TrodAll enc Try.prog W 0 (fun _ => true) true Try.f4.params.toList args.toList ds p := hA0
  rw [Try.params4] at hA hval
  obtain ⟨v0, vs0, d0, ds0, p0, q0, hargs, rfl, rfl, h0, r0⟩ := trodAll_cons hA
  obtain ⟨rfl, rfl, rfl⟩ := trodAll_nil r0
  obtain rfl : args = #[v0] := by cases args; simp_all
  obtain ⟨rfl, rfl⟩ := trodVars_none hV
  obtain ⟨a0, L0, cap0, rfl, R0, A0⟩ := open_acts (hval 0 37 v0 rfl rfl) h0
  refine (TimersPlay_c a0 cap0 L0 A0 W R0).mono fun e W' ⟨he, bel⟩ => ?_
  subst he
  have t0 := Below.trod laidOut' (show Try.prog.readableRec 37 = true by kernel_rfl) (of_decide_eq_true (by kernel_rfl) : 37 < Try.prog.types.size) h0 bel (fun x hx => hW'.lt x (by simp [hx]))
  exact ⟨_, rfl, _, _, _, [], _, [], hW', trodAll_mk1 (shut_bool Try.underlying4 _), (trodAll_cons_mk t0 trodAll_mk0), rfl, bel.frame _, fun h => by cases h⟩
theorem over : Rows.timersPlayRow.holds Try.pinned (OpenSpec.ofChange Rows.timersPlaySpec) :=
  OpenClaim.holds_of_wide 4 Try.f4 rfl rfl rfl rfl rfl rfl rfl ⟨rfl, rfl, rfl, rfl, rfl⟩ rfl rfl rfl rfl rfl (by kernel_rfl) Try.func4 (by kernel_rfl)
    (of_decide_eq_true (by kernel_rfl)) (by unfold Func.isWrapper; first | (rw [if_pos (by decide +kernel)]; kernel_rfl) | (rw [if_neg (by decide +kernel)]; exact ⟨rfl, rfl⟩))
    (fun os started H enc _ => lifted os started H enc)
end Go.Proofs.Ytidoilcgdfhfiaa.timersPlay
namespace Go.Proofs.Ytidoilcgdfhfiaa
/-- The law, under a short name, for the claim. -/
theorem timersPlay_holds : Rows.TimersPlaySaid := timersPlay.over
#print axioms timersPlay_holds
end Go.Proofs.Ytidoilcgdfhfiaa
