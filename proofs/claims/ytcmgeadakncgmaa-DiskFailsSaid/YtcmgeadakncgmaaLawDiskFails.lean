/- DiskFails is true of every three numbers. No condition. -/
import Derived.Test.YtcmgeadakncgmaaRows
import Derived.WalkKit
import Derived.ProofKit
import Derived.OpenShut
import Derived.ShutString
import Derived.ChangeOld
import Derived.Below
import Derived.Carry
import Derived.SizedLaws
import Derived.WideShapes
import Derived.Test.YtcmgeadakncgmaaWalkFails
namespace Go.Proofs.Ytcmgeadakncgmaa.diskFails
open Go Go.Proofs Go.Proofs.Ytcmgeadakncgmaa.Fn Go.ChangeShapes Go.WideShapes Go.ChangeAt Go.RowKit
set_option linter.unusedVariables false
set_option linter.unusedSimpArgs false
theorem laidOut' : laidOutB Try.prog = true := by kernel_rfl
theorem open_int' {W : World} {b0 : Nat} {t : TypeId} {v : Value} {k : IntKind} (ht : Try.prog.underlying t = some (.int k)) (hv : Value.okWide Try.prog W .any b0 t v) : ∃ n : Int, v = .int k n ∧ k.min ≤ n ∧ n ≤ k.max := by
  obtain ⟨n, rfl⟩ := okWide_int ht hv
  refine ⟨n, rfl, ?_⟩
  unfold Value.okWide at hv
  rw [ht] at hv
  have hv2 : k.has n := by simpa [Cell.okWide, Cell.ok, ht] using hv
  exact hv2
theorem open_u8 {W : World} {b0 : Nat} {v : Value} (hv : Value.okWide Try.prog W .any b0 5 v) : ∃ q : Int, v = .int .u8 q ∧ 0 ≤ q ∧ q ≤ 255 := by
  obtain ⟨n, rfl, h1, h2⟩ := open_int' Try.underlying5 hv
  simp [IntKind.min, IntKind.max, IntKind.signed, IntKind.bits] at h1 h2
  exact ⟨n, rfl, h1, h2⟩

set_option maxRecDepth 100000 in
theorem lifted (os : Os) (started : os.Started) (H : Type) (enc : TypeId × Value → H) :
    ReturnsInHanded {} Try.checked os 4 .any (Rows.diskFailsSpec.pre6 enc Try.prog Try.f4 Rows.diskFailsRow.domain false) (Rows.diskFailsSpec.post enc Try.prog Try.f4 false true false false) := by
  refine returnsInHanded_of_change (C := Try.checked) (by kernel_rfl) started (by kernel_rfl) Try.func4
    (ChangeSpec.witness6 (enc := enc) (C := Try.checked) false ⟨#[], #[.int .u8 0, .int .u8 0, .int .u8 0], []⟩ 8 (by kernel_rfl) (by kernel_rfl) (by kernel_rfl) (by kernel_rfl)) ?_
  intro W base args ds gs before hval0 hW hcnd hsz
  have hval : ∀ (j : Nat) t v, Try.f4.params[j]? = some t → args[j]? = some v → Value.okWide Try.prog W .any base t v := hval0
  have hW' := hW
  obtain ⟨p, q, hA0, hV, rfl, hfz, hnd⟩ := hW
  have hA : DataW.TrodAll enc Try.prog W 0 (fun _ => true) true Try.f4.params.toList args.toList ds p := hA0
  rw [Try.params4] at hA hval
  obtain ⟨v0, vs0, d0, ds0, p0, q0, hargs, rfl, rfl, h0, r0⟩ := trodAll_cons hA
  obtain ⟨v1, vs1, d1, ds1, p1, q1, rfl, rfl, rfl, h1, r1⟩ := trodAll_cons r0
  obtain ⟨v2, vs2, d2, ds2, p2, q2, rfl, rfl, rfl, h2, r2⟩ := trodAll_cons r1
  obtain ⟨rfl, rfl, rfl⟩ := trodAll_nil r2
  obtain rfl : args = #[v0, v1, v2] := by cases args; simp_all
  obtain ⟨rfl, rfl⟩ := trodVars_none hV
  obtain ⟨q0, rfl, qa0, qb0⟩ := open_u8 (hval 0 5 v0 rfl rfl)
  obtain ⟨q1, rfl, qa1, qb1⟩ := open_u8 (hval 1 5 v1 rfl rfl)
  obtain ⟨q2, rfl, qa2, qb2⟩ := open_u8 (hval 2 5 v2 rfl rfl)
  refine (DiskFails_c q0 q1 q2 ⟨qa0, qb0⟩ ⟨qa1, qb1⟩ ⟨qa2, qb2⟩ W).mono fun e W' ⟨he, bel⟩ => ?_
  subst he
  have t0 := Below.trod laidOut' (show Try.prog.readableRec 5 = true by kernel_rfl) (of_decide_eq_true (by kernel_rfl) : 5 < Try.prog.types.size) h0 bel (fun x hx => hW'.lt x (by simp [hx]))
  have t1 := Below.trod laidOut' (show Try.prog.readableRec 5 = true by kernel_rfl) (of_decide_eq_true (by kernel_rfl) : 5 < Try.prog.types.size) h1 bel (fun x hx => hW'.lt x (by simp [hx]))
  have t2 := Below.trod laidOut' (show Try.prog.readableRec 5 = true by kernel_rfl) (of_decide_eq_true (by kernel_rfl) : 5 < Try.prog.types.size) h2 bel (fun x hx => hW'.lt x (by simp [hx]))
  exact ⟨_, rfl, _, _, _, [], _, [], hW', trodAll_mk1 (shut_bool Try.underlying4 _), (trodAll_cons_mk t0 (trodAll_cons_mk t1 (trodAll_cons_mk t2 trodAll_mk0))), rfl, bel.frame _, fun h => by cases h⟩
theorem over : Rows.diskFailsRow.holds Try.pinned (OpenSpec.ofChange Rows.diskFailsSpec) :=
  OpenClaim.holds_of_wide 4 Try.f4 rfl rfl rfl rfl rfl rfl rfl ⟨rfl, rfl, rfl, rfl, rfl⟩ rfl rfl rfl rfl rfl (by kernel_rfl) Try.func4 (by kernel_rfl)
    (of_decide_eq_true (by kernel_rfl)) (by unfold Func.isWrapper; first | (rw [if_pos (by decide +kernel)]; kernel_rfl) | (rw [if_neg (by decide +kernel)]; exact ⟨rfl, rfl⟩))
    (fun os started H enc _ => lifted os started H enc)
end Go.Proofs.Ytcmgeadakncgmaa.diskFails
namespace Go.Proofs.Ytcmgeadakncgmaa
/-- The law, under a short name, for the claim. -/
theorem diskFails_holds : Rows.DiskFailsSaid := diskFails.over
#print axioms diskFails_holds
end Go.Proofs.Ytcmgeadakncgmaa
