/- Regions in any order where two operations that write can come first, for the calculus of steps. No condition; no program in sight. -/
import Derived.Test.YtpggmnomcahijaaDoorKw8
namespace Go.Proofs.YtpggmnomcahijaaDoor.Kw
open Go Go.Proofs Go.RowKit
set_option linter.unusedVariables false
set_option linter.unusedSimpArgs false
set_option linter.unusedSectionVars false
/-- An order of a region's operations: first, whatever else; the only one; one of two. -/
inductive Sc where
  | done : Sc
  | take : Nat → Sc → Sc
  | only : Nat → Sc → Sc
  | fork : Nat → Nat → Sc → Sc → Sc
def Sc.len : Sc → Nat
  | .done => 0
  | .take _ r => r.len + 1
  | .only _ r => r.len + 1
  | .fork _ _ r _ => r.len + 1
def Sc.ok (md : Region.Mode) (ops : Array Oper) : Sc → Array Bool → Bool
  | .done, listed => (Region.ready md ops listed).isEmpty
  | .take i r, listed => (Region.ready md ops listed).contains i && Region.free md ops listed i && r.ok md ops (listed.setIfInBounds i true)
  | .only i r, listed => decide (Region.ready md ops listed = [i]) && r.ok md ops (listed.setIfInBounds i true)
  | .fork i j r s, listed => decide (Region.ready md ops listed = [i, j]) && r.ok md ops (listed.setIfInBounds i true) && s.ok md ops (listed.setIfInBounds j true) && decide (s.len = r.len)
section
variable {P : Program} {G : List (Option Tmp)} {Q : Exit → Act → World → Prop} {l : Env} {n : Nat} {w : World} {ops : List Oper} {S : World → Prop} {r s : Sc}
def WZ (P : Program) (ops : List Oper) (G : List (Option Tmp)) (Q : Exit → Act → World → Prop) (S : World → Prop) (sc : Sc) (l : Env) (n : Nat) (w : World) : Prop :=
  Region.noSelect ops.toArray = true → dsts ops.toArray = G → ∀ listed, sc.ok .any ops.toArray listed = true → ∀ a, Rep a l n → wpAnyH P .any ops.toArray Q S sc.len listed a w
/-- One operation, and what comes behind it. -/
def WO (P : Program) (ops : List Oper) (G : List (Option Tmp)) (Q : Exit → Act → World → Prop) (S : World → Prop) (i : Nat) (r : Sc) (l : Env) (n : Nat) (w : World) : Prop :=
  ∃ o, ops[i]? = some o ∧ on G l o.guard = true ∧ ∀ (K : Act → World → Prop), (∀ l' w', S w' → WZ P ops G Q S r l' n w' → KK K l' n w') → ∀ a, Rep a l n → o.wp P a w K Q
theorem WC_fork {id : Nat} (S : World → Prop) (sc : Sc) (G : List (Option Tmp)) (hG : ops.map (·.dst) = G) (hm : P.follows .mixedOrders = true) (hlen : sc.len = ops.length)
    (hB : (Region.noSelect ops.toArray && sc.ok .any ops.toArray (Array.replicate ops.toArray.size false)) = true)
    (h : WZ P ops G Q S sc l n w.drew) : WC P (.region id ops.toArray true) Q l n w := fun a ha => by
  simp only [Bool.and_eq_true] at hB
  have := h hB.1 (by simpa [dsts] using hG) _ hB.2 a ha
  rw [hlen] at this
  exact wp_region_held hm (by simpa using this)
theorem WZ_nil (h : QN Q l n w) : WZ P ops G Q S .done l n w := fun _ _ listed hB a ha => by
  have : Region.ready .any ops.toArray listed = [] := by simpa [Sc.ok] using hB
  exact wpAnyH_done this (h a ha) 0
theorem WZ_take {i : Nat} {o : Oper} {d : Nat} {v : Value} (hi : ops[i]? = some o) (hw : on G l o.guard = true) (hd : o.dst = some d) (hn : Nat.blt d n = true)
    (hQ : ∀ c a w, Q (.panic c) (a.put o.dst v) w → Q (.panic c) a w) (hS : S w) (hr : ∀ w', S w' → Runs P l o w' v w')
    (h : WZ P ops G Q S r ((d, v) :: l) n w) : WZ P ops G Q S (.take i r) l n w := fun hs hG listed hB a ha => by
  simp only [Sc.ok, Bool.and_eq_true] at hB
  have hi' : ops.toArray[i]? = some o := by simpa using hi
  refine wpAnyH_take hi' hs hB.1.2 hB.1.1 hQ (.inl ⟨wanted_on hG ha hw, fun w' hS' => hr w' hS' a.eval ha.fits⟩) hS ?_
  rw [hd]
  exact h hs hG _ hB.2 _ (ha.put v hn)
theorem WZ_off {i : Nat} {o : Oper} {d : Nat} (hi : ops[i]? = some o) (hw : off G l o.guard = true) (hd : o.dst = some d) (hn : Nat.blt d n = true)
    (hQ : ∀ c a w, Q (.panic c) (a.put o.dst undef) w → Q (.panic c) a w) (hS : S w)
    (h : WZ P ops G Q S r ((d, undef) :: l) n w) : WZ P ops G Q S (.take i r) l n w := fun hs hG listed hB a ha => by
  simp only [Sc.ok, Bool.and_eq_true] at hB
  have hi' : ops.toArray[i]? = some o := by simpa using hi
  refine wpAnyH_take hi' hs hB.1.2 hB.1.1 hQ (.inr ⟨wanted_off hG ha hw, rfl⟩) hS ?_
  rw [hd]
  exact h hs hG _ hB.2 _ (ha.put _ hn)
theorem WO.wp {i : Nat} (h : WO P ops G Q S i r l n w) (hs : Region.noSelect ops.toArray = true) (hG : dsts ops.toArray = G) {listed : Array Bool} (hB : r.ok .any ops.toArray (listed.setIfInBounds i true) = true) {a : Act} (ha : Rep a l n) :
    wpOp P ops.toArray Q i (fun a' w' => S w' ∧ wpAnyH P .any ops.toArray Q S r.len (listed.setIfInBounds i true) a' w') a w := by
  obtain ⟨o, hi, hw, h⟩ := h
  have hi' : ops.toArray[i]? = some o := by simpa using hi
  unfold wpOp
  simp only [hi']
  rw [if_pos (wanted_on hG ha hw)]
  exact .inl (h _ (fun l' w' hS' hX a' ha' => ⟨hS', hX hs hG _ hB a' ha'⟩) a ha)
theorem WZ_only {i : Nat} (h : WO P ops G Q S i r l n w) : WZ P ops G Q S (.only i r) l n w := fun hs hG listed hB a ha => by
  simp only [Sc.ok, Bool.and_eq_true, decide_eq_true_eq] at hB
  refine wpAnyH_all hB.1 (by simp) fun j hj => ?_
  obtain rfl : j = i := by simpa using hj
  exact h.wp hs hG hB.2 ha
theorem WZ_fork {i j : Nat} (h1 : WO P ops G Q S i r l n w) (h2 : WO P ops G Q S j s l n w) : WZ P ops G Q S (.fork i j r s) l n w := fun hs hG listed hB a ha => by
  simp only [Sc.ok, Bool.and_eq_true, decide_eq_true_eq] at hB
  refine wpAnyH_all hB.1.1.1 (by simp) fun k hk => ?_
  have hk' : k = i ∨ k = j := by simpa using hk
  rcases hk' with rfl | rfl
  · exact h1.wp hs hG hB.1.1.2 ha
  · have := h2.wp hs hG hB.1.2 ha
    rw [hB.2] at this
    exact this
theorem WO_v {i : Nat} {o : Oper} {d : Nat} {v : Value} {w' : World} (hi : ops[i]? = some o) (hw : on G l o.guard = true) (hd : o.dst = some d) (hn : Nat.blt d n = true) (hr : Runs P l o w v w') (hS : S w')
    (h : WZ P ops G Q S r ((d, v) :: l) n w') : WO P ops G Q S i r l n w :=
  ⟨o, hi, hw, fun K hK a ha => by
    unfold Oper.wp
    rw [hr a.eval ha.fits, Oper.upon_value, hd]
    exact hK _ _ hS h _ (ha.put v hn)⟩
theorem WO_u {i : Nat} {o : Oper} {w' : World} (hi : ops[i]? = some o) (hw : on G l o.guard = true) (hd : o.dst = none) (hr : RunsU P l o w w') (hS : S w')
    (h : WZ P ops G Q S r l n w') : WO P ops G Q S i r l n w :=
  ⟨o, hi, hw, fun K hK a ha => by
    unfold Oper.wp
    rw [hr a.eval ha.fits, Oper.upon_skip, hd]
    exact hK _ _ hS h _ ha⟩
theorem WO_callc {i : Nat} {o : Oper} {d f : Nat} {xs : List Operand} {ats : Array TypeId} {vs : List Value} {v : Value} {R : World → Prop} (hi : ops[i]? = some o)
    (hw : on G l o.guard = true) (hd : o.dst = some d) (hn : Nat.blt d n = true) (ho : o.op = .call ⟨.value (.func f), xs.toArray, ats⟩) (hB : Bodied P f) (hx : evs l xs = some vs)
    (hc : Calls P f vs.toArray w (fun e w' => e = .returned v ∧ R w')) (h : ∀ w', R w' → S w' ∧ WZ P ops G Q S r ((d, v) :: l) n w') : WO P ops G Q S i r l n w :=
  ⟨o, hi, hw, fun K hK a ha => by
    unfold Oper.wp
    rw [run_call ho hB ha.fits (ha.evs xs vs hx), Oper.upon_enter]
    refine hc.mono fun e w' he => ?_
    obtain ⟨rfl, hR⟩ := he
    show K (a.put o.dst v) w'
    rw [hd]
    exact hK _ _ (h w' hR).1 (h w' hR).2 _ (ha.put v hn)⟩
theorem WO_call {i : Nat} {o : Oper} {d f : Nat} {xs : List Operand} {ats : Array TypeId} {vs : List Value} {R : Value → World → Prop} (hi : ops[i]? = some o)
    (hw : on G l o.guard = true) (hd : o.dst = some d) (hn : Nat.blt d n = true) (ho : o.op = .call ⟨.value (.func f), xs.toArray, ats⟩) (hB : Bodied P f) (hx : evs l xs = some vs)
    (hc : Calls P f vs.toArray w (Back R)) (h : ∀ v w', R v w' → S w' ∧ WZ P ops G Q S r ((d, v) :: l) n w') : WO P ops G Q S i r l n w :=
  ⟨o, hi, hw, fun K hK a ha => by
    unfold Oper.wp
    rw [run_call ho hB ha.fits (ha.evs xs vs hx), Oper.upon_enter]
    refine hc.mono fun e w' he => ?_
    obtain ⟨v, rfl, hR⟩ := he
    show K (a.put o.dst v) w'
    rw [hd]
    exact hK _ _ (h v w' hR).1 (h v w' hR).2 _ (ha.put v hn)⟩
variable {D : Option Tmp} {T : TypeId} {SS : String} {F : Array Edge} {g : Option (Nat × Bool)} {t : TypeId} {x y : Operand}
theorem WO_append {i ty u e size bytes : Nat} {zv : Value} {du : TypeDesc} {d : Nat} {B k m : Nat} {v yv : Value} {xs news : List Value}
    (hi : ops[i]? = some ⟨some d, .call ⟨.builtin .append, #[x, y], #[t, u]⟩, ty, SS, F, g⟩) (hw : on G l g = true) (hn : Nat.blt d n = true)
    (hx : ev l x = some v) (hyv : ev l y = some yv) (ht : P.underlying t = some (.slice e)) (hu : P.underlying u = some du) (hdu : du = .string ∨ ∃ e2, du = .slice e2) (hs : sizeIs P e size) (hby : bytesIs P e bytes) (hz : zeroIs P e zv) (hzs : zv.cells.size = size)
    (hown : Own w B e size v k xs) (hy : News P w size yv m news) (h63 : k + m ≤ maxLen) (hb : (k + m) * bytes ≤ 140737488355328) (hB : B ≤ w.heap.size)
    (h : ∀ v' w', Own w' B e size v' (k + m) (xs ++ news) → Grew w v w' v' → S w' ∧ WZ P ops G Q S r ((d, v') :: l) n w') :
    WO P ops G Q S i r l n w := by
  obtain ⟨v', w', hr, ho, hg⟩ := run_append (P := P) (ty := ty) ht hu hdu hs hby hz hzs hown hy h63 hb hB
  obtain ⟨h1, h2⟩ := h v' w' ho hg
  refine WO_v hi hw rfl hn (v := v') (w' := w') (fun ρ hf => ?_) h1 h2
  unfold execOp
  simp [resolve, invoke, builtin, hf x _ hx, hf y _ hyv, hr, Result.andThen]
end
end Go.Proofs.YtpggmnomcahijaaDoor.Kw
