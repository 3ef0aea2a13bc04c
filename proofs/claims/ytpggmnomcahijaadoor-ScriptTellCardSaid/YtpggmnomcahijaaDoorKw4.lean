/- Regions whose order is drawn, for the calculus of steps. No condition; no program in sight. -/
import Derived.Test.YtpggmnomcahijaaDoorKw3
namespace Go.Proofs.YtpggmnomcahijaaDoor.Kw
open Go Go.Proofs Go.RowKit
set_option linter.unusedVariables false
set_option linter.unusedSimpArgs false
section
variable {P : Program} {G : List (Option Tmp)} {Q : Exit → Act → World → Prop} {l : Env} {n : Nat} {w : World}
theorem At.drew {b : Nat} {cs : Array Value} {T : TypeId} (h : At w b cs T) : At w.drew b cs T := h

/-! Operations that leave the world alone, in any order, and a tail -/
def WS (P : Program) (G : List (Option Tmp)) (Q : Exit → Act → World → Prop) (tail rest : List Oper) (l : Env) (n : Nat) (w : World) : Prop :=
  ∀ ops, dsts ops = G → ∀ a, Rep a l n → wpStill P ops w (fun a' => wpList P ops Q tail a' w) rest a
theorem WC_still {id : Nat} {ops : List Oper} (m : Nat) (G : List (Option Tmp)) (hG : ops.map (·.dst) = G) (hm : P.follows .mixedOrders = true) (hB : Region.lexTailB .any ops.toArray m = true)
    (h : WS P G Q (ops.drop m) (ops.take m) l n w.drew) : WC P (.region id ops.toArray true) Q l n w := fun a ha =>
  wp_region_still_tail m hm hB (h ops.toArray (by simpa [dsts] using hG) a ha)
theorem WS_nil {tail : List Oper} (h : WL P G Q tail l n w) : WS P G Q tail [] l n w := fun ops hG a ha => wpStill_nil (h ops hG a ha)
theorem WS_v {tail rest : List Oper} {o : Oper} {d : Nat} {v : Value} (hw : on G l o.guard = true) (hd : o.dst = some d) (hn : Nat.blt d n = true) (hr : Runs P l o w v w)
    (h : WS P G Q tail rest ((d, v) :: l) n w) : WS P G Q tail (o :: rest) l n w := fun ops hG a ha => by
  refine wpStill_step fun K hK => ?_
  rw [if_pos (wanted_on hG ha hw)]
  unfold Oper.still
  rw [hr a.eval ha.fits, Oper.stillUpon_value, hd]
  exact hK _ (h ops hG _ (ha.put v hn))
theorem WS_off {tail rest : List Oper} {o : Oper} {d : Nat} (hw : off G l o.guard = true) (hd : o.dst = some d) (hn : Nat.blt d n = true)
    (h : WS P G Q tail rest ((d, undef) :: l) n w) : WS P G Q tail (o :: rest) l n w := fun ops hG a ha => by
  refine wpStill_step fun K hK => ?_
  rw [if_neg (by simp [wanted_off hG ha hw]), hd]
  exact hK _ (h ops hG _ (ha.put _ hn))
theorem WS_call {tail rest : List Oper} {o : Oper} {d f : Nat} {xs : List Operand} {ats : Array TypeId} {vs : List Value} {v : Value}
    (hw : on G l o.guard = true) (hd : o.dst = some d) (hn : Nat.blt d n = true) (ho : o.op = .call ⟨.value (.func f), xs.toArray, ats⟩) (hB : Bodied P f) (hx : evs l xs = some vs)
    (hc : Calls P f vs.toArray w (fun e w' => e = .returned v ∧ w' = w)) (h : WS P G Q tail rest ((d, v) :: l) n w) : WS P G Q tail (o :: rest) l n w := fun ops hG a ha => by
  refine wpStill_step fun K hK => ?_
  rw [if_pos (wanted_on hG ha hw)]
  unfold Oper.still
  rw [run_call ho hB ha.fits (ha.evs xs vs hx)]
  refine ⟨rfl, v, hc, ?_⟩
  rw [hd]
  exact hK _ (h ops hG _ (ha.put v hn))

/-! A row in any order, with calls that make memory: what is loaded holds all the time -/
def schedOK (md : Region.Mode) (ops : Array Oper) : List (Nat × Bool) → Array Bool → Bool
  | [], listed => (Region.ready md ops listed).isEmpty
  | (i, true) :: r, listed => (Region.ready md ops listed).contains i && Region.free md ops listed i && schedOK md ops r (listed.setIfInBounds i true)
  | (i, false) :: r, listed => decide (Region.ready md ops listed = [i]) && schedOK md ops r (listed.setIfInBounds i true)
def WX (P : Program) (ops : List Oper) (G : List (Option Tmp)) (Q : Exit → Act → World → Prop) (S : World → Prop) (sched : List (Nat × Bool)) (l : Env) (n : Nat) (w : World) : Prop :=
  Region.noSelect ops.toArray = true → dsts ops.toArray = G → ∀ listed, schedOK .any ops.toArray sched listed = true → ∀ a, Rep a l n → wpAnyH P .any ops.toArray Q S sched.length listed a w
variable {ops : List Oper} {S : World → Prop} {r : List (Nat × Bool)}
theorem WC_sched {id : Nat} (S : World → Prop) (sched : List (Nat × Bool)) (G : List (Option Tmp)) (hG : ops.map (·.dst) = G) (hm : P.follows .mixedOrders = true) (hlen : sched.length = ops.length)
    (hB : (Region.noSelect ops.toArray && schedOK .any ops.toArray sched (Array.replicate ops.toArray.size false)) = true)
    (h : WX P ops G Q S sched l n w.drew) : WC P (.region id ops.toArray true) Q l n w := fun a ha => by
  simp only [Bool.and_eq_true] at hB
  have := h hB.1 (by simpa [dsts] using hG) _ hB.2 a ha
  rw [hlen] at this
  exact wp_region_held hm (by simpa using this)
theorem WX_nil (h : QN Q l n w) : WX P ops G Q S [] l n w := fun _ _ listed hB a ha => by
  have : Region.ready .any ops.toArray listed = [] := by simpa [schedOK] using hB
  exact wpAnyH_done this (h a ha) 0
/-- First, whatever else: a value in every world that holds what is held. -/
theorem WX_take {i : Nat} {o : Oper} {d : Nat} {v : Value} (hi : ops[i]? = some o) (hw : on G l o.guard = true) (hd : o.dst = some d) (hn : Nat.blt d n = true)
    (hQ : ∀ c a w, Q (.panic c) (a.put o.dst v) w → Q (.panic c) a w) (hS : S w) (hr : ∀ w', S w' → Runs P l o w' v w')
    (h : WX P ops G Q S r ((d, v) :: l) n w) : WX P ops G Q S ((i, true) :: r) l n w := fun hs hG listed hB a ha => by
  simp only [schedOK, Bool.and_eq_true] at hB
  have hi' : ops.toArray[i]? = some o := by simpa using hi
  refine wpAnyH_take hi' hs hB.1.2 hB.1.1 hQ (.inl ⟨wanted_on hG ha hw, fun w' hS' => hr w' hS' a.eval ha.fits⟩) hS ?_
  rw [hd]
  exact h hs hG _ hB.2 _ (ha.put v hn)
theorem WX_off {i : Nat} {o : Oper} {d : Nat} (hi : ops[i]? = some o) (hw : off G l o.guard = true) (hd : o.dst = some d) (hn : Nat.blt d n = true)
    (hQ : ∀ c a w, Q (.panic c) (a.put o.dst undef) w → Q (.panic c) a w) (hS : S w)
    (h : WX P ops G Q S r ((d, undef) :: l) n w) : WX P ops G Q S ((i, true) :: r) l n w := fun hs hG listed hB a ha => by
  simp only [schedOK, Bool.and_eq_true] at hB
  have hi' : ops.toArray[i]? = some o := by simpa using hi
  refine wpAnyH_take hi' hs hB.1.2 hB.1.1 hQ (.inr ⟨wanted_off hG ha hw, rfl⟩) hS ?_
  rw [hd]
  exact h hs hG _ hB.2 _ (ha.put _ hn)
theorem WX_op {i : Nat} {o : Oper} (hi : ops[i]? = some o) (hw : on G l o.guard = true)
    (h : ∀ (K : Act → World → Prop), (∀ l' w', S w' → WX P ops G Q S r l' n w' → KK K l' n w') → ∀ a, Rep a l n → o.wp P a w K Q) : WX P ops G Q S ((i, false) :: r) l n w := fun hs hG listed hB a ha => by
  simp only [schedOK, Bool.and_eq_true, decide_eq_true_eq] at hB
  have hi' : ops.toArray[i]? = some o := by simpa using hi
  refine wpAnyH_all hB.1 (by simp) fun j hj => ?_
  obtain rfl : j = i := by simpa using hj
  unfold wpOp
  simp only [hi']
  rw [if_pos (wanted_on hG ha hw)]
  exact .inl (h _ (fun l' w' hS' hX a' ha' => ⟨hS', hX hs hG _ hB.2 a' ha'⟩) a ha)
/-- The only one that can come next: a value, and a world. -/
theorem WX_v {i : Nat} {o : Oper} {d : Nat} {v : Value} {w' : World} (hi : ops[i]? = some o) (hw : on G l o.guard = true) (hd : o.dst = some d) (hn : Nat.blt d n = true) (hr : Runs P l o w v w') (hS : S w')
    (h : WX P ops G Q S r ((d, v) :: l) n w') : WX P ops G Q S ((i, false) :: r) l n w :=
  WX_op hi hw fun K hK a ha => by
    unfold Oper.wp
    rw [hr a.eval ha.fits, Oper.upon_value, hd]
    exact hK _ _ hS h _ (ha.put v hn)
theorem WX_u {i : Nat} {o : Oper} {w' : World} (hi : ops[i]? = some o) (hw : on G l o.guard = true) (hd : o.dst = none) (hr : RunsU P l o w w') (hS : S w')
    (h : WX P ops G Q S r l n w') : WX P ops G Q S ((i, false) :: r) l n w :=
  WX_op hi hw fun K hK a ha => by
    unfold Oper.wp
    rw [hr a.eval ha.fits, Oper.upon_skip, hd]
    exact hK _ _ hS h _ ha
theorem WX_callc {i : Nat} {o : Oper} {d f : Nat} {xs : List Operand} {ats : Array TypeId} {vs : List Value} {v : Value} {R : World → Prop} (hi : ops[i]? = some o)
    (hw : on G l o.guard = true) (hd : o.dst = some d) (hn : Nat.blt d n = true) (ho : o.op = .call ⟨.value (.func f), xs.toArray, ats⟩) (hB : Bodied P f) (hx : evs l xs = some vs)
    (hc : Calls P f vs.toArray w (fun e w' => e = .returned v ∧ R w')) (h : ∀ w', R w' → S w' ∧ WX P ops G Q S r ((d, v) :: l) n w') : WX P ops G Q S ((i, false) :: r) l n w :=
  WX_op hi hw fun K hK a ha => by
    unfold Oper.wp
    rw [run_call ho hB ha.fits (ha.evs xs vs hx), Oper.upon_enter]
    refine hc.mono fun e w' he => ?_
    obtain ⟨rfl, hR⟩ := he
    show K (a.put o.dst v) w'
    rw [hd]
    exact hK _ _ (h w' hR).1 (h w' hR).2 _ (ha.put v hn)
end
end Go.Proofs.YtpggmnomcahijaaDoor.Kw
