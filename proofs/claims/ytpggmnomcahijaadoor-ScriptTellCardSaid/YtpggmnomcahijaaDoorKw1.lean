/- A calculus of steps: what is known of a frame's slots is a list of pairs, each operation a rule. No condition; no program in sight. -/
import Derived.Below
import Derived.Tactics
import Derived.WalkKit
import Derived.KernelRfl
import Derived.RowKit3
import Derived.Laws.Rows
import Derived.Laws.Tables
import Derived.OrdersHeld
import Derived.StillTail
import Derived.Deep.LoopGhost
namespace Go.Proofs.YtpggmnomcahijaaDoor.Kw
open Go Go.Proofs
set_option linter.unusedVariables false
set_option linter.unusedSimpArgs false

/-- What is known of the slots: the first pair of a slot counts. -/
abbrev Env := List (Nat × Value)
def lk : Env → Nat → Option Value
  | [], _ => none
  | (d, v) :: l, t => bif Nat.beq d t then some v else lk l t
structure Rep (a : Act) (l : Env) (n : Nat) : Prop where
  size : a.tmps.size = n
  defs : a.defers = []
  get : ∀ t v, lk l t = some v → a.tmps[t]? = some v
def ev (l : Env) : Operand → Option Value
  | .tmp t => lk l t
  | .const v => some v
  | .global g => some (.pointer (some ⟨g, 0, none⟩))
  | .func f => some (.func (.func f) #[] #[])
theorem Rep.ev {a : Act} {l : Env} {n : Nat} {x : Operand} {v : Value} (h : Rep a l n) (hx : ev l x = some v) : a.eval x = v := by
  cases x with
  | tmp t =>
    have := h.get t v hx
    simp [Act.eval, this]
  | const c => exact Option.some.inj hx
  | global g => exact Option.some.inj hx
  | func f => exact Option.some.inj hx
theorem lk_put {l : Env} {d : Nat} {v : Value} {t : Nat} : lk ((d, v) :: l) t = if d = t then some v else lk l t := by
  show (bif Nat.beq d t then some v else lk l t) = _
  by_cases h : d = t
  · subst h; simp
  · have : Nat.beq d t = false := by cases hb : Nat.beq d t <;> simp_all
    simp [this, h]
theorem Rep.put {a : Act} {l : Env} {n d : Nat} (v : Value) (h : Rep a l n) (hd : Nat.blt d n = true) : Rep (a.put (some d) v) ((d, v) :: l) n := by
  have hd' : d < n := by simpa [Nat.blt_eq] using hd
  refine ⟨by simpa [Act.put] using h.size, h.defs, fun t u hu => ?_⟩
  rw [lk_put] at hu
  by_cases e : d = t
  · subst e
    rw [if_pos rfl] at hu
    rw [← Option.some.inj hu]
    simp [Act.put, h.size, hd']
  · rw [if_neg e] at hu
    have := h.get t u hu
    simp [Act.put, Array.getElem?_setIfInBounds_ne e, this]

/-- What a smaller list says. -/
def Sub (l' l : Env) : Prop := ∀ t v, lk l' t = some v → lk l t = some v
theorem Sub.nil {l : Env} : Sub [] l := fun t v h => by cases h
theorem Sub.cons {l' l : Env} {t : Nat} {v : Value} (h : lk l t = some v) (hs : Sub l' l) : Sub ((t, v) :: l') l := fun u x hx => by
  rw [lk_put] at hx
  by_cases e : t = u
  · subst e; rw [if_pos rfl] at hx; rw [h, ← hx]
  · rw [if_neg e] at hx; exact hs u x hx
theorem Sub.refl (l : Env) : Sub l l := fun _ _ h => h
theorem Rep.sub {a : Act} {l' l : Env} {n : Nat} (h : Rep a l n) (hs : Sub l' l) : Rep a l' n := ⟨h.size, h.defs, fun t v ht => h.get t v (hs t v ht)⟩

/-- The values of a list of operands. -/
def evs (l : Env) : List Operand → Option (List Value)
  | [] => some []
  | x :: xs => match ev l x, evs l xs with
    | some v, some vs => some (v :: vs)
    | _, _ => none
theorem Rep.evs {a : Act} {l : Env} {n : Nat} (h : Rep a l n) : ∀ (xs : List Operand) (vs : List Value), evs l xs = some vs → xs.map a.eval = vs
  | [], vs, hx => by rw [← Option.some.inj hx]; rfl
  | x :: xs, vs, hx => by
    unfold Kw.evs at hx
    cases h1 : Kw.ev l x with
    | none => rw [h1] at hx; cases hx
    | some v =>
      cases h2 : Kw.evs l xs with
      | none => rw [h1, h2] at hx; cases hx
      | some us =>
        rw [h1, h2] at hx
        rw [← Option.some.inj hx, List.map_cons, h.ev h1, h.evs xs us h2]

/-- A valuation that agrees with what is known. -/
def Fits (ρ : Operand → Value) (l : Env) : Prop := ∀ x v, ev l x = some v → ρ x = v
theorem Rep.fits {a : Act} {l : Env} {n : Nat} (h : Rep a l n) : Fits a.eval l := fun _ _ hx => h.ev hx
theorem Fits.evs {ρ : Operand → Value} {l : Env} (h : Fits ρ l) : ∀ (xs : List Operand) (vs : List Value), evs l xs = some vs → xs.map ρ = vs
  | [], vs, hx => by rw [← Option.some.inj hx]; rfl
  | x :: xs, vs, hx => by
    unfold Kw.evs at hx
    cases h1 : Kw.ev l x with
    | none => rw [h1] at hx; cases hx
    | some v =>
      cases h2 : Kw.evs l xs with
      | none => rw [h1, h2] at hx; cases hx
      | some us =>
        rw [h1, h2] at hx
        rw [← Option.some.inj hx, List.map_cons, h x v h1, h.evs xs us h2]
/-- The operation gives a value and a world. -/
def Runs (P : Program) (l : Env) (o : Oper) (w : World) (v : Value) (w' : World) : Prop := ∀ ρ, Fits ρ l → (execOp ρ o).run P w = .ok (.value v) w'
/-- The operation gives no value, and a world. -/
def RunsU (P : Program) (l : Env) (o : Oper) (w : World) (w' : World) : Prop := ∀ ρ, Fits ρ l → (execOp ρ o).run P w = .ok .skip w'

/-! Guards -/
def dsts (ops : Array Oper) : List (Option Tmp) := ops.toList.map (·.dst)
def gv (G : List (Option Tmp)) (l : Env) (j : Nat) : Option Value :=
  match G[j]? with
  | some (some t) => lk l t
  | _ => none
def on (G : List (Option Tmp)) (l : Env) : Option (Nat × Bool) → Bool
  | none => true
  | some (j, u) => match gv G l j with
    | some (.bool b) => bif u then b else !b
    | _ => false
def off (G : List (Option Tmp)) (l : Env) : Option (Nat × Bool) → Bool
  | none => false
  | some (j, u) => match gv G l j with
    | some (.bool b) => bif u then !b else b
    | some (.tuple _) => true
    | _ => false
theorem gv_spec {ops : Array Oper} {G : List (Option Tmp)} (hG : dsts ops = G) {a : Act} {l : Env} {n : Nat} (hr : Rep a l n) {j : Nat} {v : Value} (h : gv G l j = some v) :
    ((ops[j]?).bind (·.dst)).bind (a.tmps[·]?) = some v := by
  unfold gv at h
  have hj : G[j]? = (ops[j]?).map (·.dst) := by rw [← hG]; simp [dsts]
  rw [hj] at h
  cases ho : ops[j]? with
  | none => rw [ho] at h; cases h
  | some o =>
    rw [ho] at h
    simp only [Option.map_some] at h
    cases hd : o.dst with
    | none => rw [hd] at h; cases h
    | some t => rw [hd] at h; simp [hd, hr.get t v h]
theorem wanted_on {ops : Array Oper} {G : List (Option Tmp)} (hG : dsts ops = G) {a : Act} {l : Env} {n : Nat} (hr : Rep a l n) {o : Oper} (h : on G l o.guard = true) :
    Region.wanted o (yielded ops a.tmps) = true := by
  unfold Region.wanted
  cases hg : o.guard with
  | none => rfl
  | some ju =>
    obtain ⟨j, u⟩ := ju
    rw [hg] at h
    unfold on at h
    simp only at h
    split at h
    · rename_i b hb
      have := gv_spec hG hr hb
      simp only [yielded, this]
      cases u <;> cases b <;> simp_all
    · cases h
theorem wanted_off {ops : Array Oper} {G : List (Option Tmp)} (hG : dsts ops = G) {a : Act} {l : Env} {n : Nat} (hr : Rep a l n) {o : Oper} (h : off G l o.guard = true) :
    Region.wanted o (yielded ops a.tmps) = false := by
  unfold Region.wanted
  cases hg : o.guard with
  | none => rw [hg] at h; cases h
  | some ju =>
    obtain ⟨j, u⟩ := ju
    rw [hg] at h
    unfold off at h
    simp only at h
    split at h
    · rename_i b hb
      have := gv_spec hG hr hb
      simp only [yielded, this]
      cases u <;> cases b <;> simp_all
    · rename_i b hb
      have := gv_spec hG hr hb
      simp only [yielded, this]
      rfl
    · cases h

/-! A row of operations, one behind the other -/
section
variable {P : Program} {G : List (Option Tmp)} {Q : Exit → Act → World → Prop} {l : Env} {n : Nat} {w : World}
/-- What is to be shown behind an operation, a statement, a way out. -/
def QN (Q : Exit → Act → World → Prop) (l : Env) (n : Nat) (w : World) : Prop := ∀ a, Rep a l n → Q .normal a w
def QR (Q : Exit → Act → World → Prop) (l : Env) (n : Nat) (w : World) : Prop := ∀ a, Rep a l n → Q .ret a w
def QE (Q : Exit → Act → World → Prop) (id : Nat) (l : Env) (n : Nat) (w : World) : Prop := ∀ a, Rep a l n → Q (.exit id) a w
def KK (K : Act → World → Prop) (l : Env) (n : Nat) (w : World) : Prop := ∀ a, Rep a l n → K a w
def WL (P : Program) (G : List (Option Tmp)) (Q : Exit → Act → World → Prop) (rest : List Oper) (l : Env) (n : Nat) (w : World) : Prop :=
  ∀ ops, dsts ops = G → ∀ a, Rep a l n → wpList P ops Q rest a w
theorem WL_nil (h : QN Q l n w) : WL P G Q [] l n w := fun _ _ a hr => h a hr
theorem wpList_on {ops : Array Oper} {a : Act} {o : Oper} {rest : List Oper} (hw : Region.wanted o (yielded ops a.tmps) = true) (h : o.wp P a w (wpList P ops Q rest) Q) : wpList P ops Q (o :: rest) a w :=
  wpList_step fun K hK => by rw [if_pos hw]; exact Oper.wp_mono hK h
theorem wpList_off {ops : Array Oper} {a : Act} {o : Oper} {rest : List Oper} (hw : Region.wanted o (yielded ops a.tmps) = false) (h : wpList P ops Q rest (a.put o.dst undef) w) : wpList P ops Q (o :: rest) a w :=
  wpList_step fun K hK => by rw [if_neg (by simp [hw])]; exact hK _ _ h
theorem WL_v {o : Oper} {rest : List Oper} {d : Nat} {v : Value} {w' : World} (hw : on G l o.guard = true) (hd : o.dst = some d) (hn : Nat.blt d n = true)
    (hr : Runs P l o w v w') (h : WL P G Q rest ((d, v) :: l) n w') : WL P G Q (o :: rest) l n w := fun ops hG a ha => by
  refine wpList_on (wanted_on hG ha hw) ?_
  unfold Oper.wp
  rw [hr a.eval ha.fits, Oper.upon_value, hd]
  exact h ops hG _ (ha.put v hn)
theorem WL_u {o : Oper} {rest : List Oper} {w' : World} (hw : on G l o.guard = true) (hd : o.dst = none)
    (hr : RunsU P l o w w') (h : WL P G Q rest l n w') : WL P G Q (o :: rest) l n w := fun ops hG a ha => by
  refine wpList_on (wanted_on hG ha hw) ?_
  unfold Oper.wp
  rw [hr a.eval ha.fits, Oper.upon_skip, hd]
  exact h ops hG _ ha
theorem WL_vn {o : Oper} {rest : List Oper} {v : Value} {w' : World} (hw : on G l o.guard = true) (hd : o.dst = none)
    (hr : Runs P l o w v w') (h : WL P G Q rest l n w') : WL P G Q (o :: rest) l n w := fun ops hG a ha => by
  refine wpList_on (wanted_on hG ha hw) ?_
  unfold Oper.wp
  rw [hr a.eval ha.fits, Oper.upon_value, hd]
  exact h ops hG _ ha
theorem WL_off {o : Oper} {rest : List Oper} {d : Nat} (hw : off G l o.guard = true) (hd : o.dst = some d) (hn : Nat.blt d n = true)
    (h : WL P G Q rest ((d, undef) :: l) n w) : WL P G Q (o :: rest) l n w := fun ops hG a ha => by
  refine wpList_off (wanted_off hG ha hw) ?_
  rw [hd]
  exact h ops hG _ (ha.put _ hn)
theorem WL_offn {o : Oper} {rest : List Oper} (hw : off G l o.guard = true) (hd : o.dst = none)
    (h : WL P G Q rest l n w) : WL P G Q (o :: rest) l n w := fun ops hG a ha => by
  refine wpList_off (wanted_off hG ha hw) ?_
  rw [hd]
  exact h ops hG _ ha
/-- Less is known. -/
theorem WL_sub {l' : Env} {rest : List Oper} (hs : Sub l' l) (h : WL P G Q rest l' n w) : WL P G Q rest l n w := fun ops hG a ha => h ops hG a (ha.sub hs)

/-! Calls -/
/-- A function with a body. -/
def Bodied (P : Program) (f : Nat) : Prop := ∃ fn c, P.funcs[f]? = some fn ∧ (fn.name == "runtime.NumGoroutine") = false ∧ fn.body = some c
theorem Bodied.mk' {f : Nat} {fn : Func} {c : Code} (h : P.funcs[f]? = some fn) (hn : (fn.name == "runtime.NumGoroutine") = false) (hb : fn.body = some c) : Bodied P f := ⟨fn, c, h, hn, hb⟩
theorem run_call {o : Oper} {f : Nat} {xs : List Operand} {ats : Array TypeId} (ho : o.op = .call ⟨.value (.func f), xs.toArray, ats⟩) (hB : Bodied P f) {vs : List Value} {ρ : Operand → Value} (hF : Fits ρ l) (hρ : xs.map ρ = vs) :
    (execOp ρ o).run P w = .ok (.enter f vs.toArray) w := by
  obtain ⟨fn, c, hf, hn, hb⟩ := hB
  have h1 : ¬ fn.name = "runtime.NumGoroutine" := by simpa using hn
  have hf' : ρ (.func f) = .func (.func f) #[] #[] := hF _ _ rfl
  unfold execOp
  simp [ho, resolve, Deferred.ofValue, invoke, callFunc, hf, h1, hb, hf', ← hρ]
/-- A value comes back. -/
def Back (R : Value → World → Prop) (e : Ending) (w' : World) : Prop := ∃ v, e = .returned v ∧ R v w'
theorem WL_call {o : Oper} {rest : List Oper} {d f : Nat} {xs : List Operand} {ats : Array TypeId} {vs : List Value} {R : Value → World → Prop}
    (hw : on G l o.guard = true) (hd : o.dst = some d) (hn : Nat.blt d n = true) (ho : o.op = .call ⟨.value (.func f), xs.toArray, ats⟩) (hB : Bodied P f) (hx : evs l xs = some vs)
    (hc : Calls P f vs.toArray w (Back R)) (h : ∀ v w', R v w' → WL P G Q rest ((d, v) :: l) n w') : WL P G Q (o :: rest) l n w := fun ops hG a ha => by
  refine wpList_on (wanted_on hG ha hw) ?_
  unfold Oper.wp
  rw [run_call ho hB ha.fits (ha.evs xs vs hx), Oper.upon_enter]
  refine hc.mono fun e w' he => ?_
  obtain ⟨v, rfl, hR⟩ := he
  show wpList P ops Q rest (a.put o.dst v) w'
  rw [hd]
  exact h v w' hR ops hG _ (ha.put v hn)
/-- The common form of a contract: one value, and what became of the world. -/
theorem WL_callc {o : Oper} {rest : List Oper} {d f : Nat} {xs : List Operand} {ats : Array TypeId} {vs : List Value} {v : Value} {S : World → Prop}
    (hw : on G l o.guard = true) (hd : o.dst = some d) (hn : Nat.blt d n = true) (ho : o.op = .call ⟨.value (.func f), xs.toArray, ats⟩) (hB : Bodied P f) (hx : evs l xs = some vs)
    (hc : Calls P f vs.toArray w (fun e w' => e = .returned v ∧ S w')) (h : ∀ w', S w' → WL P G Q rest ((d, v) :: l) n w') : WL P G Q (o :: rest) l n w :=
  WL_call (R := fun u w' => u = v ∧ S w') hw hd hn ho hB hx (hc.mono fun e w' he => ⟨v, he.1, rfl, he.2⟩) fun u w' hu => by obtain ⟨rfl, hS⟩ := hu; exact h w' hS
theorem WL_calln {o : Oper} {rest : List Oper} {f : Nat} {xs : List Operand} {ats : Array TypeId} {vs : List Value} {R : Value → World → Prop}
    (hw : on G l o.guard = true) (hd : o.dst = none) (ho : o.op = .call ⟨.value (.func f), xs.toArray, ats⟩) (hB : Bodied P f) (hx : evs l xs = some vs)
    (hc : Calls P f vs.toArray w (Back R)) (h : ∀ v w', R v w' → WL P G Q rest l n w') : WL P G Q (o :: rest) l n w := fun ops hG a ha => by
  refine wpList_on (wanted_on hG ha hw) ?_
  unfold Oper.wp
  rw [run_call ho hB ha.fits (ha.evs xs vs hx), Oper.upon_enter]
  refine hc.mono fun e w' he => ?_
  obtain ⟨v, rfl, hR⟩ := he
  show wpList P ops Q rest (a.put o.dst v) w'
  rw [hd]
  exact h v w' hR ops hG _ ha
theorem WL_callcn {o : Oper} {rest : List Oper} {f : Nat} {xs : List Operand} {ats : Array TypeId} {vs : List Value} {v : Value} {S : World → Prop}
    (hw : on G l o.guard = true) (hd : o.dst = none) (ho : o.op = .call ⟨.value (.func f), xs.toArray, ats⟩) (hB : Bodied P f) (hx : evs l xs = some vs)
    (hc : Calls P f vs.toArray w (fun e w' => e = .returned v ∧ S w')) (h : ∀ w', S w' → WL P G Q rest l n w') : WL P G Q (o :: rest) l n w :=
  WL_calln (R := fun u w' => u = v ∧ S w') hw hd ho hB hx (hc.mono fun e w' he => ⟨v, he.1, rfl, he.2⟩) fun u w' hu => by obtain ⟨rfl, hS⟩ := hu; exact h w' hS

/-! Statements -/
def WC (P : Program) (c : Code) (Q : Exit → Act → World → Prop) (l : Env) (n : Nat) (w : World) : Prop := ∀ a, Rep a l n → c.wp P Q a w
theorem WC_sub {c : Code} {l' : Env} (hs : Sub l' l) (h : WC P c Q l' n w) : WC P c Q l n w := fun a ha => h a (ha.sub hs)
theorem QN_sub {l' : Env} (hs : Sub l' l) (h : QN Q l' n w) : QN Q l n w := fun a ha => h a (ha.sub hs)
theorem WC_seq {x y : Code} (h : ∀ K, (∀ l' w', WC P y Q l' n w' → QN (Exit.then K Q) l' n w') → WC P x (Exit.then K Q) l n w) : WC P (.seq x y) Q l n w := fun a ha =>
  wp_seq (h _ (fun l' w' hy a' ha' => hy a' ha') a ha)
theorem WC_region {id : Nat} {ops : List Oper} (G : List (Option Tmp)) (hG : ops.map (·.dst) = G) (h : WL P G Q ops l n w) : WC P (.region id ops.toArray false) Q l n w := fun a ha =>
  wp_region_lit (h ops.toArray (by simpa [dsts] using hG) a ha)
theorem WC_skip (h : QN Q l n w) : WC P .skip Q l n w := fun a ha => wp_skip (h a ha)
theorem WC_ret (h : QR Q l n w) : WC P .ret Q l n w := fun a ha => wp_ret (h a ha)
theorem WC_exit {id : Nat} (h : QE Q id l n w) : WC P (.exit id) Q l n w := fun a ha => wp_exit (h a ha)
theorem WC_true {c : Operand} {x y : Code} (hc : ev l c = some (.bool true)) (h : WC P x Q l n w) : WC P (.cond c x y) Q l n w := fun a ha => wp_cond_true (ha.ev hc) (h a ha)
theorem WC_false {c : Operand} {x y : Code} (hc : ev l c = some (.bool false)) (h : WC P y Q l n w) : WC P (.cond c x y) Q l n w := fun a ha => wp_cond_false (ha.ev hc) (h a ha)
theorem WC_cond {c : Operand} {x y : Code} {b : Bool} (hc : ev l c = some (.bool b)) (ht : b = true → WC P x Q l n w) (hf : b = false → WC P y Q l n w) : WC P (.cond c x y) Q l n w := by
  cases b
  · exact WC_false hc (hf rfl)
  · exact WC_true hc (ht rfl)
theorem WC_block {id : Nat} {c : Code} (h : WC P c (Exit.inBlock id Q) l n w) : WC P (.block id c) Q l n w := fun a ha => wp_block (h a ha)
theorem QN_block {id : Nat} (h : QN Q l n w) : QN (Exit.inBlock id Q) l n w := h
theorem QR_block {id : Nat} (h : QR Q l n w) : QR (Exit.inBlock id Q) l n w := h
theorem QR_then {K : Act → World → Prop} (h : QR Q l n w) : QR (Exit.then K Q) l n w := h
theorem QE_then {K : Act → World → Prop} {id : Nat} (h : QE Q id l n w) : QE (Exit.then K Q) id l n w := h
theorem QE_here {id : Nat} (h : QN Q l n w) : QE (Exit.inBlock id Q) id l n w := fun a ha => by simpa [Exit.inBlock] using h a ha
theorem QE_out {id id' : Nat} (hne : id' ≠ id) (h : QE Q id' l n w) : QE (Exit.inBlock id Q) id' l n w := fun a ha => by simpa [Exit.inBlock, hne] using h a ha
theorem QN_sub' {l' : Env} (hs : Sub l' l) (h : QN Q l' n w) : QN Q l n w := fun a ha => h a (ha.sub hs)

/-! Loops -/
def LoopK {ι : Type} (I : ι → World → Prop) (E : ι → Env) (m : ι → Nat) (n : Nat) (i : ι) (a : Act) (w : World) : Prop := ∃ i', I i' w ∧ m i' < m i ∧ Rep a (E i') n
theorem WC_loop {ι : Type} (I : ι → World → Prop) (E : ι → Env) (m : ι → Nat) (i0 : ι) {c : Code} (h0 : I i0 w) (hs : Sub (E i0) l)
    (round : ∀ i w, I i w → WC P c (Exit.then (LoopK I E m n i) Q) (E i) n w) : WC P (.loop c) Q l n w := fun a ha => by
  refine wp_loop_ghost (fun k a' w' => ∃ i, m i = k ∧ I i w' ∧ Rep a' (E i) n) (m i0) ⟨i0, rfl, h0, ha.sub hs⟩ ?_
  rintro k a' w' ⟨i, rfl, hI, hR⟩
  refine wp_mono (round i w' hI a' hR) ?_
  intro e a'' w'' hq
  cases e with
  | normal =>
    obtain ⟨i', hI', hm, hR'⟩ := hq
    exact ⟨m i', hm, i', rfl, hI', hR'⟩
  | exit id => exact hq
  | goto k => exact hq
  | ret => exact hq
  | panic c => exact hq
  | outgrown => exact hq
/-- The end of a round. -/
theorem QN_round {ι : Type} {I : ι → World → Prop} {E : ι → Env} {m : ι → Nat} {i : ι} (i' : ι) (hI : I i' w) (hm : m i' < m i) (hs : Sub (E i') l) : QN (Exit.then (LoopK I E m n i) Q) l n w :=
  fun a ha => ⟨i', hI, hm, ha.sub hs⟩

/-! A function's beginning and end -/
def argsEnv : Nat → List Value → Env
  | _, [] => []
  | i, v :: vs => (i, v) :: argsEnv (i + 1) vs
theorem argsEnv_spec (t : Nat) (v : Value) : ∀ (vs : List Value) (i : Nat), lk (argsEnv i vs) t = some v → i ≤ t ∧ vs[t - i]? = some v
  | [], i, h => by cases h
  | u :: vs, i, h => by
    unfold argsEnv at h
    rw [lk_put] at h
    by_cases e : i = t
    · subst e; rw [if_pos rfl] at h; exact ⟨Nat.le_refl _, by simpa using h⟩
    · rw [if_neg e] at h
      obtain ⟨h1, h2⟩ := argsEnv_spec t v vs (i + 1) h
      refine ⟨by omega, ?_⟩
      rw [show t - i = (t - (i + 1)) + 1 by omega, List.getElem?_cons_succ]; exact h2
theorem enter {f : Nat} {fn : Func} {c : Code} {args : List Value} {R : Ending → World → Prop} (hf : P.funcs[f]? = some fn) (hb : fn.body = some c) (hn : fn.ntmps = n) (hle : Nat.ble args.length n = true)
    (hl : argsEnv 0 args = l) (h : WC P c (bodyPost P fn R) l n w) : Calls P f args.toArray w R := by
  refine calls_of_wp hf hb (h _ ?_)
  have hle' : args.length ≤ n := by simpa [Nat.ble_eq] using hle
  refine ⟨by simp [hn]; omega, rfl, fun t v ht => ?_⟩
  rw [← hl] at ht
  obtain ⟨_, h2⟩ := argsEnv_spec t v args 0 ht
  have hlt : t < args.length := by
    rcases Nat.lt_or_ge t args.length with h' | h'
    · exact h'
    · rw [Nat.sub_zero, List.getElem?_eq_none h'] at h2; cases h2
  rw [Nat.sub_zero] at h2
  show (args.toArray ++ _)[t]? = _
  rw [Array.getElem?_append_left (by simpa using hlt)]
  simpa using h2
/-- One result's value. -/
def RV (P : Program) (l : Env) (w : World) : ResultVar → Value → Prop
  | .tmp t, v => lk l t = some v
  | .cell p ty, v => ∃ a, lk l p = some (.pointer (some a)) ∧ (loadVar ty a).run P w = .ok v w
def rvSem (tmps : Array Value) : ResultVar → Sem Value
  | .tmp t => pure (tmps.getD t undef)
  | .cell p t => do loadVar t (← asAddr (tmps.getD p undef))
theorem RV.run {a : Act} (ha : Rep a l n) {r : ResultVar} {v : Value} (h : RV P l w r v) : (rvSem a.tmps r).run P w = .ok v w := by
  cases r with
  | tmp t =>
    have := ha.get t v h
    show (pure (a.tmps.getD t undef) : Sem Value).run P w = _
    simp [this]
  | cell p ty =>
    unfold RV at h
    simp only at h
    obtain ⟨ad, h1, h2⟩ := h
    have := ha.get p _ h1
    show (do loadVar ty (← asAddr (a.tmps.getD p undef)) : Sem Value).run P w = _
    simp only [Array.getD_eq_getD_getElem?, this, Option.getD_some, asAddr, pure_bind]
    exact h2
theorem results_rv (fn : Func) (tmps : Array Value) : results fn tmps = (do
    let vs ← fn.results.mapM (rvSem tmps)
    pure (if h : vs.size = 1 then vs[0] else .tuple vs)) := by
  unfold results
  congr 2
theorem post_ret1 {fn : Func} {R : Ending → World → Prop} {r : ResultVar} {v : Value} (hr : fn.results = #[r]) (h : RV P l w r v) (hR : R (.returned v) w) : QR (bodyPost P fn R) l n w := fun a ha => by
  refine ⟨ha.defs, v, ?_, hR⟩
  have := RV.run ha h
  rw [results_rv]; simp [hr, this, Result.andThen]
theorem post_ret2 {fn : Func} {R : Ending → World → Prop} {r r2 : ResultVar} {v v2 : Value} (hr : fn.results = #[r, r2]) (h : RV P l w r v) (h2 : RV P l w r2 v2) (hR : R (.returned (.tuple #[v, v2])) w) : QR (bodyPost P fn R) l n w := fun a ha => by
  refine ⟨ha.defs, _, ?_, hR⟩
  have e := RV.run ha h
  have e2 := RV.run ha h2
  rw [results_rv]; simp [hr, e, e2, Result.andThen]
theorem post_ret3 {fn : Func} {R : Ending → World → Prop} {r r2 r3 : ResultVar} {v v2 v3 : Value} (hr : fn.results = #[r, r2, r3]) (h : RV P l w r v) (h2 : RV P l w r2 v2) (h3 : RV P l w r3 v3)
    (hR : R (.returned (.tuple #[v, v2, v3])) w) : QR (bodyPost P fn R) l n w := fun a ha => by
  refine ⟨ha.defs, _, ?_, hR⟩
  have e := RV.run ha h
  have e2 := RV.run ha h2
  have e3 := RV.run ha h3
  rw [results_rv]; simp [hr, e, e2, e3, Result.andThen]
theorem post_ret0 {fn : Func} {R : Ending → World → Prop} (hr : fn.results = #[]) (hR : R (.returned (.tuple #[])) w) : QR (bodyPost P fn R) l n w := fun a ha =>
  ⟨ha.defs, .tuple #[], by simp [results, hr], hR⟩
theorem post_end0 {fn : Func} {R : Ending → World → Prop} (hr : fn.results = #[]) (hR : R (.returned (.tuple #[])) w) : QN (bodyPost P fn R) l n w := fun a ha =>
  ⟨ha.defs, .tuple #[], by simp [results, hr], hR⟩
end
end Go.Proofs.YtpggmnomcahijaaDoor.Kw
