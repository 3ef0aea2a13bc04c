/- Keys of two numbers, in maps and compared. No condition. -/
import Derived.Test.YtidoilcgdfhfiaaKf
import Derived.Test.YtidoilcgdfhfiaaKw8
import Derived.DeepKeys4
namespace Go.Proofs.Ytidoilcgdfhfiaa.Fn
open Go Go.Proofs Go.RowKit
def keyV (p : Int × Int) : Value := .agg #[.int .i64 p.1, .int .i64 p.2]
def okK (p : Int × Int) : Prop := (-9223372036854775808 ≤ p.1 ∧ p.1 ≤ 9223372036854775807) ∧ -9223372036854775808 ≤ p.2 ∧ p.2 ≤ 9223372036854775807
def atV (n : Int) : Value := .int .i64 n
theorem laidOut' : laidOutB Try.prog = true := by kernel_rfl
theorem key_law (t : TypeId) (hu : Try.prog.underlying t = some (.array 2 3)) (hrow : t < Try.prog.types.size) (hk : Try.prog.keyTypeAt 2 t = true) (hkt : Try.prog.keyType t = true) (hc : Try.prog.cellsOf t = 2) (hg : Try.prog.eqGuardType Try.prog.depth t = false) : Kw.EqK Try.prog t keyV okK where
  map := {
    keyed := Maps.Keyed.of_law (deep_law_laid laidOut' (m := 2) (by omega) hrow hk (by rw [hu]))
    inj := fun a b h => by
      unfold keyV at h
      simp only [Value.agg.injEq, Array.mk.injEq, List.cons.injEq, Value.int.injEq, true_and, and_true] at h
      exact Prod.ext h.1 h.2
    lit := fun a ha => by
      have hf : (keyV a).formed Try.prog t = true := by
        simp [keyV, Value.formed, hu, hc]
      have hl : ∃ L, Try.prog.keyLits (Try.prog.types.size + 1) t (keyV a).cells.toList = some L := by
        obtain ⟨m, hm⟩ : ∃ m, Try.prog.types.size = m + 1 := Nat.exists_eq_succ_of_ne_zero (fun h => by rw [h] at hrow; exact Nat.not_lt_zero _ hrow)
        have w1 : (Lit.int .i64 a.1).wf = true := by simp [Lit.wf, IntKind.min, IntKind.max, IntKind.signed, IntKind.bits]; have := ha.1; omega
        have w2 : (Lit.int .i64 a.2).wf = true := by simp [Lit.wf, IntKind.min, IntKind.max, IntKind.signed, IntKind.bits]; have := ha.2; omega
        have c3 : Try.prog.cellsOf 3 = 1 := by kernel_rfl
        rw [hm]
        refine ⟨[.int .i64 a.1, .int .i64 a.2], ?_⟩
        simp [Program.keyLits, hu, hc, keyV, Value.cells, c3, Try.underlying3, w1, w2, show List.range 2 = [0, 1] from rfl]
      obtain ⟨L, hL⟩ := hl
      exact ⟨.string (keyBytes L), by unfold keyOf; rw [hu]; simp only [hkt, hf, hL, Bool.and_self, if_true, Option.map_some]⟩ }
  deep := ⟨2, by omega, hk⟩
  wide := by rw [hu]
  guard := hg
theorem E29 : Kw.EqK Try.prog 29 keyV okK := key_law 29 Try.underlying29 (of_decide_eq_true (by kernel_rfl)) (by kernel_rfl) (by kernel_rfl) (by kernel_rfl) (by kernel_rfl)
theorem E28 : Kw.EqK Try.prog 28 keyV okK := key_law 28 Try.underlying28 (of_decide_eq_true (by kernel_rfl)) (by kernel_rfl) (by kernel_rfl) (by kernel_rfl) (by kernel_rfl)
theorem K29 : Kw.MapK Try.prog 29 keyV okK := E29.map
theorem keyV_agg (a : Int × Int) : ∃ c, keyV a = .agg c := ⟨_, rfl⟩
theorem atV_inj (a b : Int) (h : atV a = atV b) : a = b := by unfold atV at h; cases h; rfl
/-- A map of timers. -/
abbrev TM (w : World) (b : Nat) (T : List ((Int × Int) × Int)) : Prop := Kw.TMap keyV atV okK w b T
/-- A loop over it. -/
abbrev It (w : World) (r b : Nat) (T V : List ((Int × Int) × Int)) : Prop := Kw.Iter keyV atV okK w r b T V
end Go.Proofs.Ytidoilcgdfhfiaa.Fn
