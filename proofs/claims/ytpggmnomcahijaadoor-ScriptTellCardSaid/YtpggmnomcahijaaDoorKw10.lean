/- The greater and the smaller of two numbers, for the calculus of steps. No condition; no program in sight. -/
import Derived.Test.YtpggmnomcahijaaDoorKw9
namespace Go.Proofs.YtpggmnomcahijaaDoor.Kw
open Go Go.Proofs Go.RowKit
set_option linter.unusedVariables false
set_option linter.unusedSimpArgs false
section
variable {P : Program} {l : Env} {w : World} {D : Option Tmp} {T : TypeId} {S : String} {F : Array Edge} {g : Option (Nat × Bool)} {x y : Operand} {k : IntKind} {a b c : Int} {ats : Array TypeId}
theorem R_max (hx : ev l x = some (.int k a)) (hy : ev l y = some (.int k b)) (he : max a b = c) : Runs P l ⟨D, .call ⟨.builtin .max, #[x, y], ats⟩, T, S, F, g⟩ w (.int k c) w := fun ρ h => by
  subst he
  unfold execOp
  have e : (if b > a then b else a) = max a b := by omega
  simp [resolve, invoke, builtin, h x _ hx, h y _ hy, Builtin.max_, Builtin.max2, Result.andThen, e]
theorem R_min (hx : ev l x = some (.int k a)) (hy : ev l y = some (.int k b)) (he : min a b = c) : Runs P l ⟨D, .call ⟨.builtin .min, #[x, y], ats⟩, T, S, F, g⟩ w (.int k c) w := fun ρ h => by
  subst he
  unfold execOp
  have e : (if b < a then b else a) = min a b := by omega
  simp [resolve, invoke, builtin, h x _ hx, h y _ hy, Builtin.min_, Builtin.min2, Result.andThen, e]
end
section
variable {κ ν : Type} [DecidableEq κ] {kv : κ → Value} {vv : ν → Value} {ok : κ → Prop} {T : List (κ × ν)}
variable {P : Program} {G : List (Option Tmp)} {Q : Exit → Act → World → Prop} {l : Env} {n : Nat} {w : World} {ops : List Oper} {SS : World → Prop} {r : List (Nat × Bool)} {TT : TypeId} {S : String} {F : Array Edge} {g : Option (Nat × Bool)} {k e t b : Nat} {a : κ}
theorem WX_mapUpdate {i : Nat} {x y z : Operand} {u : ν} (K : MapK P k kv ok) (hi : ops[i]? = some ⟨none, .mapUpdate t x y z, TT, S, F, g⟩) (hw : on G l g = true) (hx : ev l x = some (.map (some b))) (hy : ev l y = some (kv a)) (hz : ev l z = some (vv u)) (ht : P.underlying t = some (.map k e)) (hm : TMap kv vv ok w b T) (ha : ok a)
    (h : ∀ w', Chg w b w' → TMap kv vv ok w' b (tset T a u) → SS w' ∧ WX P ops G Q SS r l n w') : WX P ops G Q SS ((i, false) :: r) l n w := by
  obtain ⟨w', hr, hc, hT⟩ := upd_run K ht hm ha u
  obtain ⟨h1, h2⟩ := h w' hc hT
  refine WX_u hi hw rfl (fun ρ hf => ?_) h1 h2
  show (do Instr.mapUpdate t (ρ x) (ρ y) (ρ z); pure Next.skip : Sem Next).run P w = _
  rw [hf x _ hx, hf y _ hy, hf z _ hz]
  exact run_skip hr
end
section
variable {P : Program} {l : Env} {w : World} {D : Option Tmp} {T : TypeId} {S : String} {F : Array Edge} {g : Option (Nat × Bool)}
theorem R_loadcs {t : TypeId} {x : Operand} {d : TypeDesc} {b o : Nat} {ds : Array Value} (hx : ev l x = some (.pointer (some ⟨b, o, none⟩))) (hu : P.underlying t = some d) (hd : aggD d = true)
    (hs : sizeIs P t ds.size) (hc : ∀ j v, ds[j]? = some v → w.cell? ⟨b, o + j, none⟩ = some v) : Runs P l ⟨D, .load t x, T, S, F, g⟩ w (.agg ds) w := fun ρ h => by
  show (do pure (Next.value (← Instr.loadAt t (ρ x))) : Sem Next).run P w = _
  rw [h x _ hx]
  refine run_value ?_
  simp only [Instr.loadAt, Instr.sureAddr, pure_bind]
  have h1 := run_isAgg hu w
  rw [hd] at h1
  have h3 := run_loadCells_list (P := P) w ⟨b, o, none⟩ ds.toList (fun j v hv => by
    rw [add_off]; exact hc j v (by rw [← Array.getElem?_toList]; exact hv))
  rw [Array.length_toList] at h3
  simp only [loadVar, Sem.run_bind, h1, Result.andThen_ok, if_true, run_sizeOf hs w, h3, Array.toArray_toList]
  simp
end
end Go.Proofs.YtpggmnomcahijaaDoor.Kw
