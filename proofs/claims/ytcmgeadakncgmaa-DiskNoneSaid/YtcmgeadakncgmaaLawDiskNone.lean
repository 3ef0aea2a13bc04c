/- DiskNone is true of every act. No condition. -/
import Derived.Test.YtcmgeadakncgmaaRows
import Derived.WalkKit
import Derived.ProofKit
import Derived.OpenShut
import Derived.ShutString
import Derived.ChangeOld
import Derived.Below
import Derived.Carry
import Derived.SizedLaws
import Derived.WideShapes
import Derived.Test.YtcmgeadakncgmaaWalkNone
namespace Go.Proofs.Ytcmgeadakncgmaa.diskNone
open Go Go.Proofs Go.Proofs.Ytcmgeadakncgmaa.Fn Go.ChangeShapes Go.WideShapes Go.ChangeAt Go.RowKit
set_option linter.unusedVariables false
set_option linter.unusedSimpArgs false
theorem laidOut' : laidOutB Try.prog = true := by kernel_rfl
theorem cell_int {P : Program} {w : World} {r : Reach} {base : Nat} {t : TypeId} {v : Value} {k : IntKind} (ht : P.underlying t = some (.int k)) (h : Cell.okWide P w r base t v) : ∃ n : Int, v = .int k n ∧ k.min ≤ n ∧ n ≤ k.max := by
  unfold Cell.okWide at h
  rw [ht] at h
  unfold Cell.ok at h
  rw [ht] at h
  cases v <;> simp at h
  obtain ⟨rfl, h⟩ := h
  exact ⟨_, rfl, h⟩
theorem cell_str {P : Program} {w : World} {r : Reach} {base : Nat} {t : TypeId} {v : Value} (ht : P.underlying t = some .string) (h : Cell.okWide P w r base t v) : ∃ s : ByteArray, v = .string s := by
  unfold Cell.okWide at h
  rw [ht] at h
  unfold Cell.ok at h
  rw [ht] at h
  cases v <;> simp at h
  exact ⟨_, rfl⟩
open Go.WideShapes in
theorem okWide_agg {P : Program} {w : World} {r : Reach} {base : Nat} {t : TypeId} {v : Value} (ht : (match P.underlying t with | some (.struct _) | some (.array _ _) => true | _ => false) = true) (h : Value.okWide P w r base t v) : ∃ cs, v = .agg cs ∧ cs.size = P.cellsOf t ∧ Row.okWide P w r base t cs := by
  unfold Value.okWide at h
  split at h
  · exact h
  · exact h
  · rename_i h1 h2
    split at ht <;> simp_all
/-- An act that came in. -/
theorem open_act {W : World} {b0 : Nat} {v : Value} (hv : Value.okWide Try.prog W .any b0 42 v) : ∃ (q n a z : Int) (s : ByteArray), v = .agg #[.int .u8 q, .int .i64 n, .int .i64 a, .int .i64 z, .string s] := by
  obtain ⟨cs, rfl, hsz, ts, hts, _, hi⟩ := okWide_agg (by kernel_rfl) hv
  rw [show Try.prog.cellsOf 42 = 5 by kernel_rfl] at hsz
  obtain rfl : ts = [5, 3, 3, 3, 9] := Option.some.inj (hts.symm.trans (by kernel_rfl))
  obtain ⟨c0, c1, c2, c3, c4, rfl⟩ : ∃ c0 c1 c2 c3 c4, cs = #[c0, c1, c2, c3, c4] := by
    obtain ⟨l⟩ := cs
    match l, hsz with
    | [c0, c1, c2, c3, c4], _ => exact ⟨c0, c1, c2, c3, c4, rfl⟩
  obtain ⟨u0, e0, g0⟩ := hi 0 c0 rfl
  obtain ⟨u1, e1, g1⟩ := hi 1 c1 rfl
  obtain ⟨u2, e2, g2⟩ := hi 2 c2 rfl
  obtain ⟨u3, e3, g3⟩ := hi 3 c3 rfl
  obtain ⟨u4, e4, g4⟩ := hi 4 c4 rfl
  obtain rfl : u0 = 5 := (Option.some.inj e0).symm
  obtain rfl : u1 = 3 := (Option.some.inj e1).symm
  obtain rfl : u2 = 3 := (Option.some.inj e2).symm
  obtain rfl : u3 = 3 := (Option.some.inj e3).symm
  obtain rfl : u4 = 9 := (Option.some.inj e4).symm
  obtain ⟨q, rfl, _⟩ := cell_int Try.underlying5 g0
  obtain ⟨n, rfl, _⟩ := cell_int Try.underlying3 g1
  obtain ⟨a, rfl, _⟩ := cell_int Try.underlying3 g2
  obtain ⟨z, rfl, _⟩ := cell_int Try.underlying3 g3
  obtain ⟨s, rfl⟩ := cell_str Try.underlying9 g4
  exact ⟨q, n, a, z, s, rfl⟩

set_option maxRecDepth 100000 in
theorem lifted (os : Os) (started : os.Started) (H : Type) (enc : TypeId × Value → H) :
    ReturnsInHanded {} Try.checked os 5 .any (Rows.diskNoneSpec.pre6 enc Try.prog Try.f5 Rows.diskNoneRow.domain false) (Rows.diskNoneSpec.post enc Try.prog Try.f5 false true false false) := by
  refine returnsInHanded_of_change (C := Try.checked) (by kernel_rfl) started (by kernel_rfl) Try.func5
    (ChangeSpec.witness6 (enc := enc) (C := Try.checked) false ⟨#[], #[.agg #[.int .u8 0, .int .i64 0, .int .i64 0, .int .i64 0, .string ⟨#[]⟩]], []⟩ 8 (by kernel_rfl) (by kernel_rfl) (by kernel_rfl) (by kernel_rfl)) ?_
  intro W base args ds gs before hval0 hW hcnd hsz
  have hval : ∀ (j : Nat) t v, Try.f5.params[j]? = some t → args[j]? = some v → Value.okWide Try.prog W .any base t v := hval0
  have hW' := hW
  obtain ⟨p, q, hA0, hV, rfl, hfz, hnd⟩ := hW
  have hA : DataW.TrodAll enc Try.prog W 0 (fun _ => true) true Try.f5.params.toList args.toList ds p := hA0
  rw [Try.params5] at hA hval
  obtain ⟨v0, vs0, d0, ds0, p0, q0, hargs, rfl, rfl, h0, r0⟩ := trodAll_cons hA
  obtain ⟨rfl, rfl, rfl⟩ := trodAll_nil r0
  obtain rfl : args = #[v0] := by cases args; simp_all
  obtain ⟨rfl, rfl⟩ := trodVars_none hV
  obtain ⟨q0, n0, a0, z0, s0, rfl⟩ := open_act (hval 0 42 v0 rfl rfl)
  refine (DiskNone_c q0 n0 a0 z0 s0 W).mono fun e W' ⟨he, bel⟩ => ?_
  subst he
  have t0 := Below.trod laidOut' (show Try.prog.readableRec 42 = true by kernel_rfl) (of_decide_eq_true (by kernel_rfl) : 42 < Try.prog.types.size) h0 bel (fun x hx => hW'.lt x (by simp [hx]))
  exact ⟨_, rfl, _, _, _, [], _, [], hW', trodAll_mk1 (shut_bool Try.underlying4 _), (trodAll_cons_mk t0 trodAll_mk0), rfl, bel.frame _, fun h => by cases h⟩
theorem over : Rows.diskNoneRow.holds Try.pinned (OpenSpec.ofChange Rows.diskNoneSpec) :=
  OpenClaim.holds_of_wide 5 Try.f5 rfl rfl rfl rfl rfl rfl rfl ⟨rfl, rfl, rfl, rfl, rfl⟩ rfl rfl rfl rfl rfl (by kernel_rfl) Try.func5 (by kernel_rfl)
    (of_decide_eq_true (by kernel_rfl)) (by unfold Func.isWrapper; first | (rw [if_pos (by decide +kernel)]; kernel_rfl) | (rw [if_neg (by decide +kernel)]; exact ⟨rfl, rfl⟩))
    (fun os started H enc _ => lifted os started H enc)
end Go.Proofs.Ytcmgeadakncgmaa.diskNone
namespace Go.Proofs.Ytcmgeadakncgmaa
/-- The law, under a short name, for the claim. -/
theorem diskNone_holds : Rows.DiskNoneSaid := diskNone.over
#print axioms diskNone_holds
end Go.Proofs.Ytcmgeadakncgmaa
