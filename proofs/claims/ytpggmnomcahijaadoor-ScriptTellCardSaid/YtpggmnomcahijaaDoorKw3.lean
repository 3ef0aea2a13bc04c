/- The rules of the operations that touch memory, for the calculus of steps. No condition; no program in sight. -/
import Derived.Test.YtpggmnomcahijaaDoorKw2
import Derived.Laws.CopyRow
import Derived.Laws.Cells
import Derived.Laws.IdiomStrings
namespace Go.Proofs.YtpggmnomcahijaaDoor.Kw
open Go Go.Proofs Go.RowKit
set_option linter.unusedVariables false
set_option linter.unusedSimpArgs false

/-- No cell of the first so many lies in the frozen part. -/
def Free (fr : Nat × Nat) (n : Nat) : Prop := ∀ i, i < n → ¬ (fr.1 ≤ i ∧ i < fr.2)
theorem Free.zero (n : Nat) : Free (0, 0) n := fun i _ h => by simp at h
/-- A block's cells, none of them frozen. -/
def At (w : World) (b : Nat) (cs : Array Value) (T : TypeId) : Prop := ∃ fr, w.heap[b]? = some (.cells cs T fr) ∧ Free fr cs.size
theorem At.mk0 {w : World} {b : Nat} {cs : Array Value} {T : TypeId} (h : w.heap[b]? = some (.cells cs T (0, 0))) : At w b cs T := ⟨_, h, Free.zero _⟩
theorem At.lt {w : World} {b : Nat} {cs : Array Value} {T : TypeId} (h : At w b cs T) : b < w.heap.size := by
  obtain ⟨fr, h, _⟩ := h
  rcases Nat.lt_or_ge b w.heap.size with h' | h'
  · exact h'
  · rw [Array.getElem?_eq_none h'] at h; cases h
theorem At.heap {w w' : World} {b : Nat} {cs : Array Value} {T : TypeId} (h : At w b cs T) (e : w'.heap[b]? = w.heap[b]?) : At w' b cs T := by
  obtain ⟨fr, h, hf⟩ := h
  exact ⟨fr, e.trans h, hf⟩
theorem At.below {B : Nat} {w w' : World} {b : Nat} {cs : Array Value} {T : TypeId} (h : At w b cs T) (hb : Below B w w') (hlt : b < B) : At w' b cs T := h.heap (hb.block b hlt)
theorem At.call {w w' : World} {b : Nat} {cs : Array Value} {T : TypeId} (h : At w b cs T) (hb : Below w.heap.size w w') : At w' b cs T := h.below hb h.lt
theorem At.cell {w : World} {b : Nat} {cs : Array Value} {T : TypeId} (h : At w b cs T) (i : Nat) : w.cell? ⟨b, i, none⟩ = cs[i]? := by
  obtain ⟨fr, h, _⟩ := h
  exact cell_of_row w b i cs T _ h
theorem At.frozen {w : World} {b : Nat} {cs : Array Value} {T : TypeId} (h : At w b cs T) (i : Nat) (hi : i < cs.size) : w.frozen? ⟨b, i, none⟩ = false := by
  obtain ⟨fr, h, hf⟩ := h
  have := hf i hi
  simp only [World.frozen?, h]
  simpa [Bool.and_eq_true] using this
theorem At.uniq {w : World} {b : Nat} {cs ds : Array Value} {T U : TypeId} (h : At w b cs T) (k : At w b ds U) : cs = ds := by
  obtain ⟨fr, h, _⟩ := h
  obtain ⟨fr', k, _⟩ := k
  rw [h] at k
  simp only [Option.some.injEq, Obj.cells.injEq] at k
  exact k.1
/-- A new block. -/
structure Newb (w : World) (g : Nat) (cs : Array Value) (T : TypeId) (w' : World) : Prop where
  eq : w' = w.alloc (.cells cs T)
  num : g = w.heap.size
theorem Newb.at_ {w w' : World} {g : Nat} {cs : Array Value} {T : TypeId} (h : Newb w g cs T w') : At w' g cs T := by
  rw [h.eq, h.num]; exact At.mk0 (by show (w.heap.push _)[w.heap.size]? = _; simp)
theorem Newb.heap {w w' : World} {g : Nat} {cs : Array Value} {T : TypeId} (h : Newb w g cs T w') (b : Nat) (hb : b < w.heap.size) : w'.heap[b]? = w.heap[b]? := by rw [h.eq]; exact Below.heap_alloc w _ b hb
theorem Newb.keep {w w' : World} {g : Nat} {cs : Array Value} {T : TypeId} (h : Newb w g cs T w') {b : Nat} {ds : Array Value} {U : TypeId} (hb : At w b ds U) : At w' b ds U := hb.heap (h.heap b hb.lt)
theorem Newb.size {w w' : World} {g : Nat} {cs : Array Value} {T : TypeId} (h : Newb w g cs T w') : w'.heap.size = w.heap.size + 1 := by rw [h.eq]; simp
theorem Newb.below {w w' : World} {g : Nat} {cs : Array Value} {T : TypeId} (h : Newb w g cs T w') {B : Nat} {w0 : World} (hb : Below B w0 w) (hB : B ≤ w0.heap.size) : Below B w0 w' := by
  rw [h.eq]; exact hb.alloc (Nat.le_trans hB hb.size) _
theorem Newb.step {w w' : World} {g : Nat} {cs : Array Value} {T : TypeId} (h : Newb w g cs T w') : Below w.heap.size w w' := h.below (Below.refl _ _) (Nat.le_refl _)
theorem Newb.ne {w w' : World} {g : Nat} {cs : Array Value} {T : TypeId} (h : Newb w g cs T w') {b : Nat} {ds : Array Value} {U : TypeId} (hb : At w b ds U) : b < g := by rw [h.num]; exact hb.lt
theorem Newb.ge {w w' : World} {g : Nat} {cs : Array Value} {T : TypeId} (h : Newb w g cs T w') {B : Nat} {w0 : World} (hb : Below B w0 w) (hB : B ≤ w0.heap.size) : B ≤ g := by
  rw [h.num]; exact Nat.le_trans hB hb.size
/-- A block written. -/
structure Wrote (w : World) (b : Nat) (cs : Array Value) (w' : World) : Prop where
  eq : w' = w.setRow b cs
  len : ∀ old T, At w b old T → cs.size = old.size
theorem Wrote.at_ {w w' : World} {b : Nat} {cs old : Array Value} {T : TypeId} (h : Wrote w b cs w') (hb : At w b old T) : At w' b cs T := by
  have hl := h.len old T hb
  obtain ⟨fr, hb, hf⟩ := hb
  rw [h.eq]
  exact ⟨fr, setRow_heap w b old cs T _ hb, by rw [hl]; exact hf⟩
theorem Wrote.heap {w w' : World} {b : Nat} {cs : Array Value} (h : Wrote w b cs w') (k : Nat) (hk : k ≠ b) : w'.heap[k]? = w.heap[k]? := by rw [h.eq]; exact setRow_other w b k cs hk
theorem Wrote.keep {w w' : World} {b : Nat} {cs : Array Value} (h : Wrote w b cs w') {k : Nat} {ds : Array Value} {U : TypeId} (hk : At w k ds U) (hne : k ≠ b) : At w' k ds U := hk.heap (h.heap k hne)
theorem Wrote.size {w w' : World} {b : Nat} {cs : Array Value} (h : Wrote w b cs w') : w'.heap.size = w.heap.size := by rw [h.eq]; simp
theorem Wrote.below {w w' : World} {b : Nat} {cs : Array Value} (h : Wrote w b cs w') {B : Nat} {w0 : World} (hb : Below B w0 w) (hB : B ≤ b) : Below B w0 w' := by
  rw [h.eq]
  exact hb.trans ⟨rfl, rfl, rfl, by simp, fun k hk => setRow_other w b k cs (by omega)⟩
/-- Nothing that was there has turned: calls one behind the other. -/
theorem Below.then {B : Nat} {w0 w w' : World} (h : Below B w0 w) (hB : B ≤ w0.heap.size) (hs : Below w.heap.size w w') : Below B w0 w' := h.trans (hs.mono (Nat.le_trans hB h.size))

section
variable {P : Program} {l : Env} {w : World} {D : Option Tmp} {T : TypeId} {S : String} {F : Array Edge} {g : Option (Nat × Bool)}
variable {G : List (Option Tmp)} {Q : Exit → Act → World → Prop} {n : Nat}
def sizeIs (P : Program) (t : TypeId) (k : Nat) : Prop := (P.info? t).map (·.size) = some k
theorem run_sizeOf {t : TypeId} {k : Nat} (h : sizeIs P t k) (w : World) : (sizeOf t).run P w = .ok k w := by
  unfold sizeIs at h
  cases hq : P.info? t with
  | none => rw [hq] at h; cases h
  | some i => rw [hq] at h; simp at h; simp [sizeOf, typeInfo, hq, h]
def zeroIs (P : Program) (t : TypeId) (z : Value) : Prop := (P.info? t).bind (·.zero) = some z
theorem run_zero {t : TypeId} {z : Value} (h : zeroIs P t z) (w : World) : (zeroValue t).run P w = .ok z w := by
  unfold zeroIs at h
  cases hq : P.info? t with
  | none => rw [hq] at h; cases h
  | some i => rw [hq] at h; simp at h; simp [zeroValue, typeInfo, hq, h, Result.andThen]
theorem R_alloc {t : TypeId} {z : Value} {w' : World} {b : Nat} (hz : zeroIs P t z) (hN : Newb w b z.cells t w') : Runs P l ⟨D, .alloc t, T, S, F, g⟩ w (.pointer (some ⟨b, 0, none⟩)) w' := fun ρ h => by
  show (do pure (Next.value (← Instr.alloc t true (.tuple #[]))) : Sem Next).run P w = _
  refine run_value ?_
  have hz' := run_zero hz w
  rw [hN.eq, hN.num]
  simp [Instr.alloc, hz', Result.andThen, newVar, newRow]
theorem R_box {t : TypeId} {x : Operand} {v : Value} {w' : World} {b : Nat} (hx : ev l x = some v) (hN : Newb w b v.cells t w') : Runs P l ⟨D, .box t x, T, S, F, g⟩ w (.pointer (some ⟨b, 0, none⟩)) w' := fun ρ h => by
  show (do pure (Next.value (← Instr.box t (ρ x))) : Sem Next).run P w = _
  rw [h x v hx]
  refine run_value ?_
  rw [hN.eq, hN.num]
  simp [Instr.box, newVar, newRow, Result.andThen]
/-- A new variable: its block under a name. -/
theorem WL_alloc {t : TypeId} {z : Value} {d : Nat} {rest : List Oper} (hw : on G l g = true) (hn : Nat.blt d n = true) (hz : zeroIs P t z)
    (h : ∀ b w', Newb w b z.cells t w' → WL P G Q rest ((d, .pointer (some ⟨b, 0, none⟩)) :: l) n w') : WL P G Q (⟨some d, .alloc t, T, S, F, g⟩ :: rest) l n w :=
  WL_v hw rfl hn (R_alloc hz ⟨rfl, rfl⟩) (h _ _ ⟨rfl, rfl⟩)
theorem WL_box {t : TypeId} {x : Operand} {v : Value} {d : Nat} {rest : List Oper} (hw : on G l g = true) (hn : Nat.blt d n = true) (hx : ev l x = some v)
    (h : ∀ b w', Newb w b v.cells t w' → WL P G Q rest ((d, .pointer (some ⟨b, 0, none⟩)) :: l) n w') : WL P G Q (⟨some d, .box t x, T, S, F, g⟩ :: rest) l n w :=
  WL_v hw rfl hn (R_box hx ⟨rfl, rfl⟩) (h _ _ ⟨rfl, rfl⟩)
def aggD : TypeDesc → Bool
  | .struct _ => true
  | .array _ _ => true
  | _ => false
theorem run_isAgg {t : TypeId} {d : TypeDesc} (hu : P.underlying t = some d) (w : World) : (isAgg t).run P w = .ok (aggD d) w := by
  unfold isAgg; simp [run_underlying hu, Result.andThen]; cases d <;> rfl
/-- One cell read. -/
theorem run_loadVar1 {t : TypeId} {d : TypeDesc} {a : Addr} {v : Value} (hu : P.underlying t = some d) (hd : aggD d = false) (hc : w.cell? a = some v) : (loadVar t a).run P w = .ok v w := by
  have h1 := run_isAgg hu w
  rw [hd] at h1
  simp [loadVar, h1, Result.andThen, hc]
theorem run_loadVarN {t : TypeId} {d : TypeDesc} {b o k : Nat} {cs : Array Value} {U : TypeId} (hu : P.underlying t = some d) (hd : aggD d = true) (hs : sizeIs P t k) (hb : At w b cs U) (hk : o + k ≤ cs.size) :
    (loadVar t ⟨b, o, none⟩).run P w = .ok (.agg (cs.extract o (o + k))) w := by
  have h1 := run_isAgg hu w
  rw [hd] at h1
  have hlen : ((cs.extract o (o + k)).toList).length = k := by simp; omega
  have h3 := run_loadCells_list (P := P) w ⟨b, o, none⟩ (cs.extract o (o + k)).toList (fun j v hv => by
    have hadd : (⟨b, o, none⟩ : Addr).add j = ⟨b, o + j, none⟩ := by unfold Addr.add; split <;> simp_all
    rw [hadd, hb.cell]
    have hj : j < k := by
      rcases Nat.lt_or_ge j k with h | h
      · exact h
      · rw [List.getElem?_eq_none (by omega)] at hv; cases hv
    have : (cs.extract o (o + k))[j]? = some v := by rw [← Array.getElem?_toList]; exact hv
    rw [Array.getElem?_extract] at this
    simpa [show j < min (o + k) cs.size - o by omega] using this)
  rw [hlen] at h3
  simp only [loadVar, Sem.run_bind, h1, Result.andThen_ok, if_true, run_sizeOf hs w, h3, Array.toArray_toList]
  simp
theorem R_load1 {t : TypeId} {x : Operand} {d : TypeDesc} {b o : Nat} {cs : Array Value} {U : TypeId} {v : Value} (hx : ev l x = some (.pointer (some ⟨b, o, none⟩))) (hu : P.underlying t = some d) (hd : aggD d = false)
    (hb : At w b cs U) (hv : cs[o]? = some v) : Runs P l ⟨D, .load t x, T, S, F, g⟩ w v w := fun ρ h => by
  show (do pure (Next.value (← Instr.loadAt t (ρ x))) : Sem Next).run P w = _
  rw [h x _ hx]
  refine run_value ?_
  simp only [Instr.loadAt, Instr.sureAddr, pure_bind]
  exact run_loadVar1 hu hd (by rw [hb.cell]; exact hv)
/-- The same of a cell of which no more is known than that it is there. -/
theorem R_loadc {t : TypeId} {x : Operand} {d : TypeDesc} {a : Addr} {v : Value} (hx : ev l x = some (.pointer (some a))) (hu : P.underlying t = some d) (hd : aggD d = false)
    (hc : w.cell? a = some v) : Runs P l ⟨D, .load t x, T, S, F, g⟩ w v w := fun ρ h => by
  show (do pure (Next.value (← Instr.loadAt t (ρ x))) : Sem Next).run P w = _
  rw [h x _ hx]
  refine run_value ?_
  simp only [Instr.loadAt, Instr.sureAddr, pure_bind]
  exact run_loadVar1 hu hd hc
theorem R_loadN {t : TypeId} {x : Operand} {d : TypeDesc} {b o k : Nat} {cs ds : Array Value} {U : TypeId} (hx : ev l x = some (.pointer (some ⟨b, o, none⟩))) (hu : P.underlying t = some d) (hd : aggD d = true)
    (hs : sizeIs P t k) (hb : At w b cs U) (hk : o + k ≤ cs.size) (he : cs.extract o (o + k) = ds) : Runs P l ⟨D, .load t x, T, S, F, g⟩ w (.agg ds) w := fun ρ h => by
  subst he
  show (do pure (Next.value (← Instr.loadAt t (ρ x))) : Sem Next).run P w = _
  rw [h x _ hx]
  refine run_value ?_
  simp only [Instr.loadAt, Instr.sureAddr, pure_bind]
  exact run_loadVarN hu hd hs hb hk
/-- A whole block read. -/
theorem R_loadW {t : TypeId} {x : Operand} {d : TypeDesc} {b : Nat} {cs : Array Value} {U : TypeId} (hx : ev l x = some (.pointer (some ⟨b, 0, none⟩))) (hu : P.underlying t = some d) (hd : aggD d = true)
    (hs : sizeIs P t cs.size) (hb : At w b cs U) : Runs P l ⟨D, .load t x, T, S, F, g⟩ w (.agg cs) w :=
  R_loadN hx hu hd hs hb (by omega) (by simp)
theorem RV_row {p ty : Nat} {d : TypeDesc} {b : Nat} {cs : Array Value} {U : TypeId} (hx : lk l p = some (.pointer (some ⟨b, 0, none⟩))) (hu : P.underlying ty = some d) (hd : aggD d = true)
    (hs : sizeIs P ty cs.size) (hb : At w b cs U) : RV P l w (.cell p ty) (.agg cs) :=
  ⟨_, hx, by have := run_loadVarN (w := w) (o := 0) hu hd hs hb (by omega); simpa using this⟩
theorem RV_one {p ty : Nat} {d : TypeDesc} {b o : Nat} {cs : Array Value} {U : TypeId} {v : Value} (hx : lk l p = some (.pointer (some ⟨b, o, none⟩))) (hu : P.underlying ty = some d) (hd : aggD d = false)
    (hb : At w b cs U) (hv : cs[o]? = some v) : RV P l w (.cell p ty) v :=
  ⟨_, hx, run_loadVar1 hu hd (by rw [hb.cell]; exact hv)⟩
/-- Cells put into a row from a place on. -/
def splice (cs : Array Value) (o : Nat) (vs : List Value) : Array Value := (cs.toList.take o ++ vs ++ cs.toList.drop (o + vs.length)).toArray
theorem splice_one (cs : Array Value) (o : Nat) (v : Value) (h : o < cs.size) : splice cs o [v] = cs.setIfInBounds o v := by
  apply Array.toList_inj.1
  unfold splice
  rw [Array.toList_setIfInBounds, List.set_eq_take_append_cons_drop, if_pos (by simpa using h)]
  simp
theorem splice_all (cs ds : Array Value) (h : cs.size = ds.size) : splice cs 0 ds.toList = ds := by
  unfold splice
  apply Array.toList_inj.1
  simp [h]
theorem splice_size (cs : Array Value) (o : Nat) (vs : List Value) (h : o + vs.length ≤ cs.size) : (splice cs o vs).size = cs.size := by
  unfold splice; simp; omega
theorem splice_cons (cs : Array Value) (o : Nat) (v : Value) (vs : List Value) (h : o + (v :: vs).length ≤ cs.size) : splice (cs.setIfInBounds o v) (o + 1) vs = splice cs o (v :: vs) := by
  unfold splice
  apply Array.toList_inj.1
  have hl : o < cs.toList.length := by simp at h ⊢; omega
  simp only [Array.toList_setIfInBounds]
  rw [List.take_set, List.drop_set, if_pos (by omega)]
  rw [List.take_succ_eq_append_getElem hl, List.set_append, if_neg (by simp; omega)]
  have e : o - (List.take o cs.toList).length = 0 := by simp; omega
  rw [e]
  simp only [List.set_cons_zero, List.length_cons, List.append_assoc, List.singleton_append]
  rw [show o + 1 + vs.length = o + (vs.length + 1) by omega]
theorem setCell_row {w : World} {b i : Nat} {cs : Array Value} {T : TypeId} (h : At w b cs T) (v : Value) : w.setCell ⟨b, i, none⟩ v = w.setRow b (cs.setIfInBounds i v) := by
  obtain ⟨fr, h, _⟩ := h
  exact setCell_eq_setRow w b i cs T fr v h
theorem run_store1 {b i : Nat} {cs : Array Value} {T : TypeId} {v : Value} (h : At w b cs T) (hi : i < cs.size) (h1 : v.oneCell' = true) : (store ⟨b, i, none⟩ v).run P w = .ok () (w.setRow b (cs.setIfInBounds i v)) := by
  rw [← setCell_row h v]
  have hc := h.cell i
  have hf := h.frozen i hi
  rw [Array.getElem?_eq_getElem hi] at hc
  rw [run_store P w _ v .plain h1]
  simp [stored, hc, hf]
theorem run_storeRow {b o : Nat} {T : TypeId} : ∀ (vs : List Value) (i : Nat) (cs : Array Value) (w : World), At w b cs T → o + i + vs.length ≤ cs.size → (∀ v ∈ vs, v.oneCell' = true) →
    (storeCells ⟨b, o, none⟩ vs i).run P w = .ok () (w.setRow b (splice cs (o + i) vs))
  | [], i, cs, w, h, _, _ => by
    obtain ⟨fr, h, _⟩ := h
    have e : splice cs (o + i) [] = cs := by unfold splice; simp
    rw [e, setRow_self w b cs T fr h]
    rfl
  | v :: vs, i, cs, w, h, hl, h1 => by
    have hi : o + i < cs.size := by simp at hl; omega
    have hadd : (⟨b, o, none⟩ : Addr).add i = ⟨b, o + i, none⟩ := by unfold Addr.add; split <;> simp_all
    have hst := run_store1 (P := P) h hi (h1 v (by simp))
    have h' : At (w.setRow b (cs.setIfInBounds (o + i) v)) b (cs.setIfInBounds (o + i) v) T := by
      obtain ⟨fr, h, hf⟩ := h
      exact ⟨fr, setRow_heap w b cs _ T fr h, by simpa using hf⟩
    have ih := run_storeRow (b := b) (o := o) vs (i + 1) _ _ h' (by simp at hl ⊢; omega) (fun u hu => h1 u (by simp [hu]))
    rw [show o + (i + 1) = o + i + 1 by omega] at ih
    simp only [storeCells, Sem.run_bind, hadd, hst, Result.andThen_ok, ih, setRow_setRow]
    rw [splice_cons cs (o + i) v vs (by simp at hl ⊢; omega)]
theorem run_storeAt {t : TypeId} {b o : Nat} {cs : Array Value} {U : TypeId} {v : Value} (hs : sizeIs P t v.cells.size) (hb : At w b cs U) (hk : o + v.cells.size ≤ cs.size) (h1 : v.cells.toList.all (·.oneCell') = true) :
    (Instr.storeAt t (.pointer (some ⟨b, o, none⟩)) v).run P w = .ok () (w.setRow b (splice cs o v.cells.toList)) := by
  have h2 := run_storeRow (P := P) (b := b) (o := o) v.cells.toList 0 cs w hb (by simpa using hk) (fun u hu => List.all_eq_true.1 h1 u hu)
  simp only [Instr.storeAt, Instr.sureAddr, pure_bind, storeVar, Sem.run_bind, run_sizeOf hs w, Result.andThen_ok]
  simp only [ne_eq, not_true_eq_false, if_false]
  exact h2
theorem wrote_splice {b o : Nat} {cs ds : Array Value} {U : TypeId} {vs : List Value} (hb : At w b cs U) (hk : o + vs.length ≤ cs.size) (he : splice cs o vs = ds) : Wrote w b ds (w.setRow b ds) :=
  ⟨rfl, fun old T h => by rw [← he, splice_size cs o vs hk, hb.uniq h]⟩
theorem R_store {t : TypeId} {x y : Operand} {b o : Nat} {cs ds : Array Value} {U : TypeId} {v : Value} {w' : World} (hx : ev l x = some (.pointer (some ⟨b, o, none⟩))) (hy : ev l y = some v) (hs : sizeIs P t v.cells.size)
    (hb : At w b cs U) (hk : o + v.cells.size ≤ cs.size) (h1 : v.cells.toList.all (·.oneCell') = true) (he : splice cs o v.cells.toList = ds) (hW : Wrote w b ds w') : RunsU P l ⟨D, .store t x y, T, S, F, g⟩ w w' := fun ρ h => by
  show (do Instr.storeAt t (ρ x) (ρ y); pure Next.skip : Sem Next).run P w = _
  rw [h x _ hx, h y _ hy, hW.eq, ← he]
  exact run_skip (run_storeAt hs hb hk h1)
theorem WL_store {t : TypeId} {x y : Operand} {b o : Nat} {cs ds : Array Value} {U : TypeId} {v : Value} {rest : List Oper} (hw : on G l g = true) (hx : ev l x = some (.pointer (some ⟨b, o, none⟩))) (hy : ev l y = some v) (hs : sizeIs P t v.cells.size)
    (hb : At w b cs U) (hk : o + v.cells.size ≤ cs.size) (h1 : v.cells.toList.all (·.oneCell') = true) (he : splice cs o v.cells.toList = ds)
    (h : ∀ w', Wrote w b ds w' → WL P G Q rest l n w') : WL P G Q (⟨none, .store t x y, T, S, F, g⟩ :: rest) l n w :=
  have hW := wrote_splice hb (by simpa using hk) he
  WL_u hw rfl (R_store hx hy hs hb hk h1 he hW) (h _ hW)
/-- One cell stored. -/
theorem WL_store1 {t : TypeId} {x y : Operand} {b o : Nat} {cs ds : Array Value} {U : TypeId} {v : Value} {rest : List Oper} (hw : on G l g = true) (hx : ev l x = some (.pointer (some ⟨b, o, none⟩))) (hy : ev l y = some v) (hs : sizeIs P t 1)
    (hb : At w b cs U) (hk : o < cs.size) (hc : v.cells = #[v]) (h1 : v.oneCell' = true) (he : cs.setIfInBounds o v = ds)
    (h : ∀ w', Wrote w b ds w' → WL P G Q rest l n w') : WL P G Q (⟨none, .store t x y, T, S, F, g⟩ :: rest) l n w :=
  WL_store hw hx hy (by rw [hc]; exact hs) hb (by rw [hc]; show o + 1 ≤ _; omega) (by rw [hc]; simpa using h1) (by rw [hc, ← he]; exact splice_one cs o v hk) h
/-- A whole block stored. -/
theorem WL_storeW {t : TypeId} {x y : Operand} {b : Nat} {cs ds : Array Value} {U : TypeId} {rest : List Oper} (hw : on G l g = true) (hx : ev l x = some (.pointer (some ⟨b, 0, none⟩))) (hy : ev l y = some (.agg ds)) (hs : sizeIs P t ds.size)
    (hb : At w b cs U) (hk : cs.size = ds.size) (h1 : ds.toList.all (·.oneCell') = true)
    (h : ∀ w', Wrote w b ds w' → WL P G Q rest l n w') : WL P G Q (⟨none, .store t x y, T, S, F, g⟩ :: rest) l n w :=
  WL_store hw hx hy hs hb (by show 0 + ds.size ≤ _; omega) h1 (splice_all cs ds hk) h

/-! Rows made out of parts, bytes as a text -/
def evsP (l : Env) : List (Nat × Operand) → Option (List (Nat × Value))
  | [] => some []
  | (i, x) :: xs => match ev l x, evsP l xs with
    | some v, some vs => some ((i, v) :: vs)
    | _, _ => none
theorem Fits.evsP {ρ : Operand → Value} (h : Fits ρ l) : ∀ (xs : List (Nat × Operand)) (vs : List (Nat × Value)), evsP l xs = some vs → xs.map (fun p => (p.1, ρ p.2)) = vs
  | [], vs, hx => by rw [← Option.some.inj hx]; rfl
  | (i, x) :: xs, vs, hx => by
    unfold Kw.evsP at hx
    cases h1 : Kw.ev l x with
    | none => rw [h1] at hx; cases hx
    | some v =>
      cases h2 : Kw.evsP l xs with
      | none => rw [h1, h2] at hx; cases hx
      | some us =>
        rw [h1, h2] at hx
        rw [← Option.some.inj hx, List.map_cons, h x v h1, h.evsP xs us h2]
theorem R_buildSlice {t e len : Nat} {ps : List (Nat × Operand)} {vs : List (Nat × Value)} {cs : Array Value} {b : Nat} {w' : World} (hx : evsP l ps = some vs)
    (hr : ∀ w, (Instr.buildSlice t len vs.toArray).run P w = .ok (.slice (some ⟨w.heap.size, 0, none⟩) len len) (w.alloc (.cells cs e))) (hN : Newb w b cs e w') :
    Runs P l ⟨D, .buildSlice t len ps.toArray, T, S, F, g⟩ w (.slice (some ⟨b, 0, none⟩) len len) w' := fun ρ h => by
  show (do pure (Next.value (← Instr.buildSlice t len (ps.toArray.map fun (i, x) => (i, ρ x)))) : Sem Next).run P w = _
  have e : (ps.toArray.map fun (i, x) => (i, ρ x)) = vs.toArray := by rw [← h.evsP ps vs hx]; simp
  rw [e, hN.eq, hN.num]
  exact run_value (hr w)
theorem R_build {t : Nat} {ps : List (Nat × Operand)} {vs : List (Nat × Value)} {cs : Array Value} (hx : evsP l ps = some vs)
    (hr : ∀ w, (Instr.build t vs.toArray).run P w = .ok (.agg cs) w) : Runs P l ⟨D, .build t ps.toArray, T, S, F, g⟩ w (.agg cs) w := fun ρ h => by
  show (do pure (Next.value (← Instr.build t (ps.toArray.map fun (i, x) => (i, ρ x)))) : Sem Next).run P w = _
  have e : (ps.toArray.map fun (i, x) => (i, ρ x)) = vs.toArray := by rw [← h.evsP ps vs hx]; simp
  rw [e]
  exact run_value (hr w)
theorem R_convbs {src dst e : TypeId} {x : Operand} {b o n c : Nat} {cs : Array Value} {U : TypeId} {bs : List UInt8} {r : ByteArray} (hs : P.underlying src = some (.slice e)) (he : P.underlying e = some (.int .u8)) (hd : P.underlying dst = some .string)
    (hx : ev l x = some (.slice (some ⟨b, o, none⟩) n c)) (hb : At w b cs U) (hn : bs.length = n) (hc : ∀ (j : Nat) (hj : j < bs.length), cs[o + j]? = some (.int .u8 ((bs[j].toNat : Nat) : Int))) (hr : (⟨bs.toArray⟩ : ByteArray) = r) :
    Runs P l ⟨D, .convert src dst x, T, S, F, g⟩ w (.string r) w := fun ρ h => by
  subst hn; subst hr
  show (do pure (Next.value (← convert src dst (ρ x))) : Sem Next).run P w = _
  rw [h x _ hx]
  refine run_value ?_
  refine run_convert_bytes_back (P := P) w src dst e ⟨b, o, none⟩ c bs hs he hd ?_
  intro j hj
  have : (⟨b, o, none⟩ : Addr).add j = ⟨b, o + j, none⟩ := by unfold Addr.add; split <;> simp_all
  rw [this, hb.cell]
  exact hc j hj

/-! Places -/
theorem add_off (b o k : Nat) : (⟨b, o, none⟩ : Addr).add k = ⟨b, o + k, none⟩ := by unfold Addr.add; split <;> simp_all
theorem R_fieldAddr {s : TypeId} {x : Operand} {i : Nat} {fs : Array Field} {f : Field} {b o o' k : Nat} (hx : ev l x = some (.pointer (some ⟨b, o, none⟩))) (hu : P.underlying s = some (.struct fs)) (hf : fs[i]? = some f)
    (hk : sizeIs P f.type (k + 1)) (he : o + f.offset = o') : Runs P l ⟨D, .fieldAddr s x i, T, S, F, g⟩ w (.pointer (some ⟨b, o', none⟩)) w := fun ρ h => by
  subst he
  show (do pure (Next.value (← Instr.fieldAt s (ρ x) i)) : Sem Next).run P w = _
  rw [h x _ hx]
  refine run_value ?_
  have h2 := run_sizeOf hk w
  simp [Instr.fieldAt, Instr.sureAddr, fieldPlace, run_underlying hu, Result.andThen, hf, h2, add_off]
theorem R_indexAddrA {t e : TypeId} {x y : Operand} {k : IntKind} {i b o m s o' : Nat} (hx : ev l x = some (.pointer (some ⟨b, o, none⟩))) (hy : ev l y = some (.int k (i : Int))) (hu : P.underlying t = some (.array m e))
    (hs : sizeIs P e s) (hi : i < m) (he : o + i * s = o') : Runs P l ⟨D, .indexAddr t x y, T, S, F, g⟩ w (.pointer (some ⟨b, o', none⟩)) w := fun ρ h => by
  subst he
  show (do pure (Next.value (← Instr.indexAt t (ρ x) (ρ y))) : Sem Next).run P w = _
  rw [h x _ hx, h y _ hy]
  refine run_value ?_
  have h2 := run_sizeOf hs w
  have h3 : (0 : Int) ≤ (i : Int) ∧ (i : Int) < (m : Int) := ⟨by omega, by omega⟩
  simp [Instr.indexAt, Instr.sureAddr, asIntOf, run_underlying hu, Result.andThen, h2, add_off, hi]
theorem R_indexAddrS {t e : TypeId} {x y : Operand} {k : IntKind} {i b o len cap s o' : Nat} (hx : ev l x = some (.slice (some ⟨b, o, none⟩) len cap)) (hy : ev l y = some (.int k (i : Int))) (hu : P.underlying t = some (.slice e))
    (hs : sizeIs P e s) (hi : i < len) (he : o + i * s = o') : Runs P l ⟨D, .indexAddr t x y, T, S, F, g⟩ w (.pointer (some ⟨b, o', none⟩)) w := fun ρ h => by
  subst he
  show (do pure (Next.value (← Instr.indexAt t (ρ x) (ρ y))) : Sem Next).run P w = _
  rw [h x _ hx, h y _ hy]
  refine run_value ?_
  have h2 := run_sizeOf hs w
  simp [Instr.indexAt, asIntOf, run_underlying hu, Result.andThen, h2, add_off, hi]
/-- An element of an array's value. -/
theorem R_indexA1 {t e : TypeId} {x y : Operand} {k : IntKind} {i m s : Nat} {cs : Array Value} {d : TypeDesc} {v : Value} (hx : ev l x = some (.agg cs)) (hy : ev l y = some (.int k (i : Int))) (hu : P.underlying t = some (.array m e))
    (hue : P.underlying e = some d) (hd : aggD d = false) (hs : sizeIs P e s) (hi : i < m) (hv : cs[i * s]? = some v) : Runs P l ⟨D, .index t x y, T, S, F, g⟩ w v w := fun ρ h => by
  show (do pure (Next.value (← Instr.index t (ρ x) (ρ y))) : Sem Next).run P w = _
  rw [h x _ hx, h y _ hy]
  refine run_value ?_
  have h2 := run_sizeOf hs w
  have h4 := run_isAgg hue w
  rw [hd] at h4
  simp [Instr.index, asIntOf, run_underlying hu, Result.andThen, h2, hi, part, h4, hv]
theorem R_field1 {t : TypeId} {x : Operand} {i : Nat} {fs : Array Field} {f : Field} {cs : Array Value} {d : TypeDesc} {v : Value} (hx : ev l x = some (.agg cs)) (hu : P.underlying t = some (.struct fs)) (hf : fs[i]? = some f)
    (hue : P.underlying f.type = some d) (hd : aggD d = false) (hv : cs[f.offset]? = some v) : Runs P l ⟨D, .field t x i, T, S, F, g⟩ w v w := fun ρ h => by
  show (do pure (Next.value (← Instr.field t (ρ x) i)) : Sem Next).run P w = _
  rw [h x _ hx]
  refine run_value ?_
  have h4 := run_isAgg hue w
  rw [hd] at h4
  simp [Instr.field, asAgg, run_underlying hu, Result.andThen, part, h4, hv, hf]
theorem R_fieldN {t : TypeId} {x : Operand} {i : Nat} {fs : Array Field} {f : Field} {cs ds : Array Value} {d : TypeDesc} {k : Nat} (hx : ev l x = some (.agg cs)) (hu : P.underlying t = some (.struct fs)) (hf : fs[i]? = some f)
    (hue : P.underlying f.type = some d) (hd : aggD d = true) (hs : sizeIs P f.type k) (he : cs.extract f.offset (f.offset + k) = ds) : Runs P l ⟨D, .field t x i, T, S, F, g⟩ w (.agg ds) w := fun ρ h => by
  subst he
  show (do pure (Next.value (← Instr.field t (ρ x) i)) : Sem Next).run P w = _
  rw [h x _ hx]
  refine run_value ?_
  have h4 := run_isAgg hue w
  rw [hd] at h4
  simp [Instr.field, asAgg, run_underlying hu, Result.andThen, part, h4, hf, run_sizeOf hs w]
end
end Go.Proofs.YtpggmnomcahijaaDoor.Kw
