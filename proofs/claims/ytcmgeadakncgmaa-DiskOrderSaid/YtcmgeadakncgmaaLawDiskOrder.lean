/- DiskOrder is true of every scraps. No condition. -/
import Derived.Test.YtcmgeadakncgmaaRows
import Derived.WalkKit
import Derived.ProofKit
import Derived.OpenShut
import Derived.ShutString
import Derived.ChangeOld
import Derived.Below
import Derived.Carry
import Derived.SizedLaws
import Derived.WideShapes
import Derived.Test.YtcmgeadakncgmaaWalkOrder
namespace Go.Proofs.Ytcmgeadakncgmaa.diskOrder
open Go Go.Proofs Go.Proofs.Ytcmgeadakncgmaa.Fn Go.ChangeShapes Go.WideShapes Go.ChangeAt Go.RowKit
set_option linter.unusedVariables false
set_option linter.unusedSimpArgs false
theorem laidOut' : laidOutB Try.prog = true := by kernel_rfl
open Go.WideShapes in
/-- A slice that came in, cell by cell. -/
theorem open_slice {H : Type} {enc : TypeId × Value → H} {W : World} {v : Value} {d : DataW H} {p : List MemPlace} {b0 t e k : Nat} (ht : Try.prog.underlying t = some (.slice e)) (hc : Try.prog.cellsOf e = k) (hk : 0 < k)
    (hv : Value.okWide Try.prog W .any b0 t v) (h : DataW.Trod enc Try.prog W 0 (fun _ => true) true t v d p) :
    ∃ a len cap, v = .slice a len cap ∧ len ≤ cap ∧ (len = 0 ∨ ∃ g o, a = some ⟨g, o, none⟩ ∧ ∀ i, i < len → ∃ cs x n, W.cells? 0 ⟨g, o + i * k, none⟩ k = some cs ∧ DataW.trod enc Try.prog W 0 (fun _ => true) true n e cs = some x) := by
  obtain ⟨a, len, cap, rfl⟩ := okWide_slice ht hv
  obtain ⟨fuel, hf⟩ := h
  rcases DataW.trod_slice ht hf with ⟨hcs, _⟩ | ⟨a', len', cap', elems, rest, n, _, hcs, _, hb, hl, hm, hlen, hel, _, _⟩
  · simp only [Value.cells, List.cons.injEq, Value.slice.injEq, and_true] at hcs
    obtain ⟨rfl, rfl, rfl⟩ := hcs
    exact ⟨none, 0, 0, rfl, Nat.le_refl _, .inl rfl⟩
  · simp only [Value.cells, List.cons.injEq, Value.slice.injEq, and_true] at hcs
    obtain ⟨rfl, rfl, rfl⟩ := hcs
    refine ⟨some a', len, cap, rfl, hl, ?_⟩
    rcases Nat.eq_zero_or_pos len with h0 | h0
    · exact .inl h0
    · right
      rw [hc] at hel
      have get : ∀ i, i < len → ∃ cs x, W.cells? 0 (a'.add (i * k)) k = some cs ∧ DataW.trod enc Try.prog W 0 (fun _ => true) true n e cs = some x := fun i hi => by
        have h1 := hel i hi
        rw [List.getElem?_eq_getElem (by omega), Option.bind_eq_some_iff] at h1
        obtain ⟨cs, h2, h3⟩ := h1
        exact ⟨cs, _, h2, h3⟩
      obtain ⟨cs0, x0, hc0, _⟩ := get 0 h0
      obtain ⟨_, hl0, hcell0⟩ := World.cells?_some hc0
      have hsp : a'.spot = none := by
        have c0 := hcell0 0 hk
        rcases hc0' : W.cell? ((a'.add (0 * k)).add 0) with _ | v0
        · rw [hc0', List.getElem?_eq_getElem (by omega)] at c0; cases c0
        · simpa [Addr.add] using World.cell?_spot hc0'
      obtain ⟨g, o, sp⟩ := a'
      simp only at hsp
      subst hsp
      refine ⟨g, o, rfl, fun i hi => ?_⟩
      obtain ⟨cs, x, h1, h2⟩ := get i hi
      rw [Kw.add_off] at h1
      exact ⟨cs, x, n, h1, h2⟩
theorem pick {α : Type} (d : α) (Q : Nat → α → Prop) : ∀ n, (∀ i, i < n → ∃ z, Q i z) → ∃ L : List α, L.length = n ∧ ∀ i, i < n → Q i (L.getD i d)
  | 0, _ => ⟨[], rfl, fun i hi => absurd hi (Nat.not_lt_zero _)⟩
  | n + 1, h => by
    obtain ⟨L, hL, hQ⟩ := pick d Q n fun i hi => h i (by omega)
    obtain ⟨z, hz⟩ := h n (by omega)
    refine ⟨L ++ [z], by simp [hL], fun i hi => ?_⟩
    rw [List.getD_eq_getElem?_getD]
    by_cases e : i < n
    · have := hQ i e
      rw [List.getD_eq_getElem?_getD] at this
      rw [List.getElem?_append_left (by omega)]; exact this
    · obtain rfl : i = n := by omega
      rw [List.getElem?_append_right (by omega), hL, Nat.sub_self]; exact hz
theorem u8_trod {H : Type} {enc : TypeId × Value → H} {W : World} {n : Nat} {cs : List Value} {x : DataW H × List MemPlace} (h : DataW.trod enc Try.prog W 0 (fun _ => true) true n 5 cs = some x) : ∃ z : Int, cs = [.int .u8 z] ∧ 0 ≤ z ∧ z ≤ 255 := by
  obtain ⟨a, e0, e2, wa⟩ := DataW.trod_int Try.underlying5 h
  refine ⟨a, e0, ?_, ?_⟩ <;> simp [Lit.wf, IntKind.min, IntKind.max, IntKind.signed, IntKind.bits] at wa <;> omega
theorem str_trod {H : Type} {enc : TypeId × Value → H} {W : World} {n : Nat} {cs : List Value} {x : DataW H × List MemPlace} (h : DataW.trod enc Try.prog W 0 (fun _ => true) true n 9 cs = some x) : ∃ s : ByteArray, cs = [.string s] := by
  obtain ⟨s, e0, _, _⟩ := DataW.trod_string Try.underlying9 h
  exact ⟨s, e0⟩
theorem scrap_trod {H : Type} {enc : TypeId × Value → H} {W : World} {n : Nat} {cs : List Value} {x : DataW H × List MemPlace} (h : DataW.trod enc Try.prog W 0 (fun _ => true) true n 31 cs = some x) : ∃ y : Scrap, cs = [.int .u8 (y.1 : Int), .string y.2] ∧ y.1 ≤ 255 := by
  obtain ⟨xs, m, _, _, hcl, hxl, hel⟩ := DataW.trod_struct Try.underlying31 h
  rw [show Try.prog.cellsOf 31 = 2 by kernel_rfl] at hcl
  have hxl' : xs.length = 2 := hxl
  have e0 : DataW.trod enc Try.prog W 0 (fun _ => true) true m 5 ((cs.drop 0).take (Try.prog.cellsOf 5)) = xs[0]? := hel 0 _ rfl
  have e1 : DataW.trod enc Try.prog W 0 (fun _ => true) true m 9 ((cs.drop 1).take (Try.prog.cellsOf 9)) = xs[1]? := hel 1 _ rfl
  rw [show Try.prog.cellsOf 5 = 1 by kernel_rfl, List.getElem?_eq_getElem (by omega)] at e0
  rw [show Try.prog.cellsOf 9 = 1 by kernel_rfl, List.getElem?_eq_getElem (by omega)] at e1
  obtain ⟨q, hq, r1, r2⟩ := u8_trod e0
  obtain ⟨s, hs⟩ := str_trod e1
  match cs, hcl with
  | [y0, y1], _ =>
    simp at hq hs
    subst hq hs
    exact ⟨(q.toNat, s), by dsimp only; rw [Int.toNat_of_nonneg r1], by dsimp only; omega⟩
theorem open_scraps {H : Type} {enc : TypeId × Value → H} {W : World} {v : Value} {d : DataW H} {p : List MemPlace} {b0 : Nat} (hv : Value.okWide Try.prog W .any b0 22 v) (h : DataW.Trod enc Try.prog W 0 (fun _ => true) true 22 v d p) :
    ∃ a L cap, v = .slice a L.length cap ∧ RdS W a L := by
  obtain ⟨a, len, cap, rfl, _, hR⟩ := open_slice Try.underlying22 (show Try.prog.cellsOf 31 = 2 by kernel_rfl) (by omega) hv h
  rcases hR with rfl | ⟨g, o, rfl, hR⟩
  · exact ⟨a, [], cap, rfl, .inl rfl⟩
  · obtain ⟨L, hL, hQ⟩ := pick ((0, ⟨#[]⟩) : Scrap) (fun i z => (W.cell? ⟨g, o + i * 2, none⟩ = some (.int .u8 (z.1 : Int)) ∧ W.cell? ⟨g, o + i * 2 + 1, none⟩ = some (.string z.2)) ∧ z.1 ≤ 255) len (fun i hi => by
      obtain ⟨cs, x, n, h1, h2⟩ := hR i hi
      obtain ⟨y, rfl, hy⟩ := scrap_trod h2
      obtain ⟨_, hcl, h3⟩ := World.cells?_some h1
      have c0 := h3 0 (by omega)
      have c1 := h3 1 (by omega)
      rw [Kw.add_off] at c0 c1
      exact ⟨y, ⟨c0, c1⟩, hy⟩)
    refine ⟨_, L, cap, by rw [hL], .inr ⟨g, o, rfl, fun i hi => ?_⟩⟩
    have hq := hQ i (by omega)
    rw [List.getD_eq_getElem?_getD, List.getElem?_eq_getElem hi] at hq
    exact ⟨block_lt_of_cell hq.1.1, hq.2, hq.1.1, hq.1.2⟩
theorem open_int' {W : World} {b0 : Nat} {t : TypeId} {v : Value} {k : IntKind} (ht : Try.prog.underlying t = some (.int k)) (hv : Value.okWide Try.prog W .any b0 t v) : ∃ n : Int, v = .int k n ∧ k.min ≤ n ∧ n ≤ k.max := by
  obtain ⟨n, rfl⟩ := okWide_int ht hv
  refine ⟨n, rfl, ?_⟩
  unfold Value.okWide at hv
  rw [ht] at hv
  have hv2 : k.has n := by simpa [Cell.okWide, Cell.ok, ht] using hv
  exact hv2
theorem open_u8 {W : World} {b0 : Nat} {v : Value} (hv : Value.okWide Try.prog W .any b0 5 v) : ∃ q : Int, v = .int .u8 q ∧ 0 ≤ q ∧ q ≤ 255 := by
  obtain ⟨n, rfl, h1, h2⟩ := open_int' Try.underlying5 hv
  simp [IntKind.min, IntKind.max, IntKind.signed, IntKind.bits] at h1 h2
  exact ⟨n, rfl, h1, h2⟩
theorem open_i64 {W : World} {b0 : Nat} {v : Value} (hv : Value.okWide Try.prog W .any b0 3 v) : ∃ q : Int, v = .int .i64 q ∧ okI q := by
  obtain ⟨n, rfl, h1, h2⟩ := open_int' Try.underlying3 hv
  simp [IntKind.min, IntKind.max, IntKind.signed, IntKind.bits] at h1 h2
  exact ⟨n, rfl, by unfold okI; omega⟩

set_option maxRecDepth 100000 in
theorem lifted (os : Os) (started : os.Started) (H : Type) (enc : TypeId × Value → H) :
    ReturnsInHanded {} Try.checked os 3 .any (Rows.diskOrderSpec.pre6 enc Try.prog Try.f3 Rows.diskOrderRow.domain false) (Rows.diskOrderSpec.post enc Try.prog Try.f3 false true false false) := by
  refine returnsInHanded_of_change (C := Try.checked) (by kernel_rfl) started (by kernel_rfl) Try.func3
    (ChangeSpec.witness6 (enc := enc) (C := Try.checked) false ⟨#[], #[.slice none 0 0, .int .u8 0, .int .i64 0], []⟩ 8 (by kernel_rfl) (by kernel_rfl) (by kernel_rfl) (by kernel_rfl)) ?_
  intro W base args ds gs before hval0 hW hcnd hsz
  have hval : ∀ (j : Nat) t v, Try.f3.params[j]? = some t → args[j]? = some v → Value.okWide Try.prog W .any base t v := hval0
  have hW' := hW
  obtain ⟨p, q, hA0, hV, rfl, hfz, hnd⟩ := hW
  have hA : DataW.TrodAll enc Try.prog W 0 (fun _ => true) true Try.f3.params.toList args.toList ds p := hA0
  rw [Try.params3] at hA hval
  obtain ⟨v0, vs0, d0, ds0, p0, q0, hargs, rfl, rfl, h0, r0⟩ := trodAll_cons hA
  obtain ⟨v1, vs1, d1, ds1, p1, q1, rfl, rfl, rfl, h1, r1⟩ := trodAll_cons r0
  obtain ⟨v2, vs2, d2, ds2, p2, q2, rfl, rfl, rfl, h2, r2⟩ := trodAll_cons r1
  obtain ⟨rfl, rfl, rfl⟩ := trodAll_nil r2
  obtain rfl : args = #[v0, v1, v2] := by cases args; simp_all
  obtain ⟨rfl, rfl⟩ := trodVars_none hV
  obtain ⟨a0, L0, cap0, rfl, R0⟩ := open_scraps (hval 0 22 v0 rfl rfl) h0
  obtain ⟨q1, rfl, qa1, qb1⟩ := open_u8 (hval 1 5 v1 rfl rfl)
  obtain ⟨q2, rfl, qk2⟩ := open_i64 (hval 2 3 v2 rfl rfl)
  refine (DiskOrder_c a0 cap0 L0 q1 q2 ⟨qa1, qb1⟩ qk2 W R0).mono fun e W' ⟨he, bel⟩ => ?_
  subst he
  have t0 := Below.trod laidOut' (show Try.prog.readableRec 22 = true by kernel_rfl) (of_decide_eq_true (by kernel_rfl) : 22 < Try.prog.types.size) h0 bel (fun x hx => hW'.lt x (by simp [hx]))
  have t1 := Below.trod laidOut' (show Try.prog.readableRec 5 = true by kernel_rfl) (of_decide_eq_true (by kernel_rfl) : 5 < Try.prog.types.size) h1 bel (fun x hx => hW'.lt x (by simp [hx]))
  have t2 := Below.trod laidOut' (show Try.prog.readableRec 3 = true by kernel_rfl) (of_decide_eq_true (by kernel_rfl) : 3 < Try.prog.types.size) h2 bel (fun x hx => hW'.lt x (by simp [hx]))
  exact ⟨_, rfl, _, _, _, [], _, [], hW', trodAll_mk1 (shut_bool Try.underlying4 _), (trodAll_cons_mk t0 (trodAll_cons_mk t1 (trodAll_cons_mk t2 trodAll_mk0))), rfl, bel.frame _, fun h => by cases h⟩
theorem over : Rows.diskOrderRow.holds Try.pinned (OpenSpec.ofChange Rows.diskOrderSpec) :=
  OpenClaim.holds_of_wide 3 Try.f3 rfl rfl rfl rfl rfl rfl rfl ⟨rfl, rfl, rfl, rfl, rfl⟩ rfl rfl rfl rfl rfl (by kernel_rfl) Try.func3 (by kernel_rfl)
    (of_decide_eq_true (by kernel_rfl)) (by unfold Func.isWrapper; first | (rw [if_pos (by decide +kernel)]; kernel_rfl) | (rw [if_neg (by decide +kernel)]; exact ⟨rfl, rfl⟩))
    (fun os started H enc _ => lifted os started H enc)
end Go.Proofs.Ytcmgeadakncgmaa.diskOrder
namespace Go.Proofs.Ytcmgeadakncgmaa
/-- The law, under a short name, for the claim. -/
theorem diskOrder_holds : Rows.DiskOrderSaid := diskOrder.over
#print axioms diskOrder_holds
end Go.Proofs.Ytcmgeadakncgmaa
