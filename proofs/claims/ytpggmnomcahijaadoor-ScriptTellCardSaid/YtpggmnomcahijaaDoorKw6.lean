/- Slicing slices and arrays, for the calculus of steps. No condition; no program in sight. -/
import Derived.Test.YtpggmnomcahijaaDoorKw5
namespace Go.Proofs.YtpggmnomcahijaaDoor.Kw
open Go Go.Proofs Go.RowKit
set_option linter.unusedVariables false
set_option linter.unusedSimpArgs false
section
variable {P : Program} {l : Env} {w : World} {D : Option Tmp} {T : TypeId} {S : String} {F : Array Edge} {g : Option (Nat × Bool)}
/-- A bound that is left out, or a number. -/
def Bnd (l : Env) (d : Nat) (i : Nat) : Option Operand → Prop
  | none => i = d
  | some y => ∃ k, ev l y = some (.int k (i : Int))
theorem Bnd.run {ρ : Operand → Value} (hf : Fits ρ l) {d i y : Nat} {c : BoundsCode} {x : Option Operand} (h : Bnd l d i x) (hi : i ≤ y) :
    (match x.map ρ with | some v => Instr.sliceBound v y c | none => pure d : Sem Nat).run P w = .ok i w := by
  cases x with
  | none => simp only [Bnd] at h; subst h; rfl
  | some z =>
    obtain ⟨k, hk⟩ := h
    simp only [Option.map_some, hf z _ hk]
    simp [Instr.sliceBound, asIntOf, hi]
theorem run_bounds {ρ : Operand → Value} (hf : Fits ρ l) {isS : Bool} {len cap i j m : Nat} {lo hi mx : Option Operand} (hlo : Bnd l 0 i lo) (hhi : Bnd l len j hi) (hmx : Bnd l cap m mx) (hij : i ≤ j) (hjm : j ≤ m) (hm : m ≤ cap) (hq : (mx.isSome && hi.isNone) = false) :
    (Instr.sliceBounds isS len cap (lo.map ρ) (hi.map ρ) (mx.map ρ)).run P w = .ok (i, j, m) w := by
  cases mx with
  | none =>
    simp only [Bnd] at hmx; subst hmx
    cases hi with
    | none =>
      simp only [Bnd] at hhi; subst hhi
      cases lo with
      | none => simp only [Bnd] at hlo; subst hlo; simp [Instr.sliceBounds, Result.andThen]
      | some z => obtain ⟨k, hk⟩ := hlo; simp [Instr.sliceBounds, Instr.sliceBound, asIntOf, hf z _ hk, hij, Result.andThen]
    | some y =>
      obtain ⟨k', hk'⟩ := hhi
      cases lo with
      | none => simp only [Bnd] at hlo; subst hlo; simp [Instr.sliceBounds, Instr.sliceBound, asIntOf, hf y _ hk', hjm, Result.andThen]
      | some z => obtain ⟨k, hk⟩ := hlo; simp [Instr.sliceBounds, Instr.sliceBound, asIntOf, hf y _ hk', hf z _ hk, hjm, hij, Result.andThen]
  | some x =>
    obtain ⟨k'', hk''⟩ := hmx
    cases hi with
    | none => simp at hq
    | some y =>
      obtain ⟨k', hk'⟩ := hhi
      cases lo with
      | none => simp only [Bnd] at hlo; subst hlo; simp [Instr.sliceBounds, Instr.sliceBound, asIntOf, hf y _ hk', hf x _ hk'', hjm, hm, Result.andThen]
      | some z => obtain ⟨k, hk⟩ := hlo; simp [Instr.sliceBounds, Instr.sliceBound, asIntOf, hf y _ hk', hf z _ hk, hf x _ hk'', hjm, hij, hm, Result.andThen]
theorem R_slicel {t e : TypeId} {x : Operand} {lo hi mx : Option Operand} {b o len cap s i j m o' : Nat} (hx : ev l x = some (.slice (some ⟨b, o, none⟩) len cap)) (hu : P.underlying t = some (.slice e)) (hs : sizeIs P e s)
    (hlo : Bnd l 0 i lo) (hhi : Bnd l len j hi) (hmx : Bnd l cap m mx) (hij : i ≤ j) (hjm : j ≤ m) (hm : m ≤ cap) (hq : (mx.isSome && hi.isNone) = false) (he : (if m = i then o else o + i * s) = o') :
    Runs P l ⟨D, .slice t x lo hi mx, T, S, F, g⟩ w (.slice (some ⟨b, o', none⟩) (j - i) (m - i)) w := fun ρ h => by
  subst he
  show (do pure (Next.value (← Instr.sliceAt t (ρ x) (lo.map ρ) (hi.map ρ) (mx.map ρ))) : Sem Next).run P w = _
  rw [h x _ hx]
  refine run_value ?_
  have hb := run_bounds (P := P) (w := w) h (isS := true) hlo hhi hmx hij hjm hm hq
  simp only [Instr.sliceAt, Instr.slice, Sem.run_bind, run_underlying hu, Result.andThen_ok, hb, run_sizeOf hs w, Sem.run_pure]
  by_cases e : m = i
  · simp [e]
  · simp [e, add_off]
theorem R_sliceA {t e : TypeId} {x : Operand} {lo hi mx : Option Operand} {b o n s i j m o' : Nat} (hx : ev l x = some (.pointer (some ⟨b, o, none⟩))) (hu : P.underlying t = some (.array n e)) (hs : sizeIs P e s)
    (hlo : Bnd l 0 i lo) (hhi : Bnd l n j hi) (hmx : Bnd l n m mx) (hij : i ≤ j) (hjm : j ≤ m) (hm : m ≤ n) (hq : (mx.isSome && hi.isNone) = false) (he : (if m = i then o else o + i * s) = o') :
    Runs P l ⟨D, .slice t x lo hi mx, T, S, F, g⟩ w (.slice (some ⟨b, o', none⟩) (j - i) (m - i)) w := fun ρ h => by
  subst he
  show (do pure (Next.value (← Instr.sliceAt t (ρ x) (lo.map ρ) (hi.map ρ) (mx.map ρ))) : Sem Next).run P w = _
  rw [h x _ hx]
  refine run_value ?_
  have hb := run_bounds (P := P) (w := w) h (isS := false) hlo hhi hmx hij hjm hm hq
  simp only [Instr.sliceAt, Instr.sureAddr, Sem.run_bind, run_underlying hu, Result.andThen_ok, hb, run_sizeOf hs w, Sem.run_pure]
  by_cases e : m = i
  · simp [e]
  · simp [e, add_off]
/-- What a slice's piece reads. -/
theorem piece {cur : List Value} {o len i j m s o' : Nat} {xs : List Value} (h : (cur.drop o).take (len * s) = xs) (hij : i ≤ j) (hj : j ≤ len) (hjm : j ≤ m) (he : (if m = i then o else o + i * s) = o') : (cur.drop o').take ((j - i) * s) = (xs.drop (i * s)).take ((j - i) * s) := by
  subst he
  by_cases e : m = i
  · have : j - i = 0 := by omega
    simp [this]
  · rw [if_neg e, ← h, List.drop_take, List.drop_drop, List.take_take]
    congr 1
    have h1 : (j - i) * s ≤ len * s - i * s := by rw [← Nat.sub_mul]; exact Nat.mul_le_mul_right _ (by omega)
    omega
theorem R_makeSlice {t e k : Nat} {x y : Operand} {kx ky : IntKind} {len : Nat} {z : Value} {b bytes : Nat} {w' : World} (hx : ev l x = some (.int kx (len : Int))) (hy : ev l y = some (.int ky (len : Int)))
    (hu : P.underlying t = some (.slice e)) (hr : ∀ w, (Instr.makeSlice t (.int kx (len : Int)) (.int ky (len : Int))).run P w = .ok (.slice (some ⟨w.heap.size, 0, none⟩) len len) (w.alloc (.cells (Array.replicate len z) e)))
    (hN : Newb w b (Array.replicate len z) e w') : Runs P l ⟨D, .makeSlice t x y, T, S, F, g⟩ w (.slice (some ⟨b, 0, none⟩) len len) w' := fun ρ h => by
  show (do pure (Next.value (← Instr.makeSlice t (ρ x) (ρ y))) : Sem Next).run P w = _
  rw [h x _ hx, h y _ hy, hN.eq, hN.num]
  exact run_value (hr w)
end
end Go.Proofs.YtpggmnomcahijaaDoor.Kw
