/- Maps, for the calculus of steps. No condition; no program in sight. -/
import Derived.Test.YtpggmnomcahijaaDoorKw6
import Derived.Maps.Keyed
import Derived.Maps.RangeRun
import Derived.Carry
namespace Go.Proofs.YtpggmnomcahijaaDoor.Kw
open Go Go.Proofs Go.RowKit
open Go.ChangeMaps (setBlock)
open Go.MapKept (Stamped stamped_iff stamped_push stamped_modify stamped_erase stamped_empty)
set_option linter.unusedVariables false
set_option linter.unusedSimpArgs false
set_option linter.unusedSectionVars false
/-- One block has turned, and nothing else. -/
structure Chg (w : World) (b : Nat) (w' : World) : Prop where
  os : w'.os = w.os
  tape : w'.tape = w.tape
  output : w'.output = w.output
  size : w'.heap.size = w.heap.size
  heap : ∀ k, k ≠ b → w'.heap[k]? = w.heap[k]?
theorem Chg.block (w : World) (b : Nat) (o : Obj) : Chg w b (setBlock w b o) := ⟨rfl, rfl, rfl, by simp [setBlock], fun k hk => by simp [setBlock, Array.getElem?_setIfInBounds_ne (Ne.symm hk)]⟩
theorem Chg.blockD (w : World) (b : Nat) (o : Obj) : Chg w b (setBlock w.drew b o) := ⟨rfl, rfl, rfl, (Chg.block w b o).size, (Chg.block w b o).heap⟩
theorem Chg.below {w w' : World} {b : Nat} (h : Chg w b w') {B : Nat} {w0 : World} (hb : Below B w0 w) (hB : B ≤ b) : Below B w0 w' :=
  hb.trans ⟨h.os, h.tape, h.output, Nat.le_of_eq h.size.symm, fun k hk => h.heap k (by omega)⟩
theorem Chg.keep {w w' : World} {b : Nat} (h : Chg w b w') {k : Nat} {ds : Array Value} {U : TypeId} (hk : At w k ds U) (hne : k ≠ b) : At w' k ds U := hk.heap (h.heap k hne)
theorem Chg.keepO {w w' : World} {b : Nat} (h : Chg w b w') {B e size n : Nat} {v : Value} {xs : List Value} (ho : Own w B e size v n xs) (hne : ob v ≠ some b) : Own w' B e size v n xs :=
  ho.heap fun g hg => h.heap g (fun e => hne (by rw [hg, e]))
theorem Wrote.chg {w w' : World} {b : Nat} {cs : Array Value} (h : Wrote w b cs w') : Chg w b w' := by
  have e := h.eq
  subst e
  exact ⟨rfl, rfl, rfl, by simp, fun k hk => setRow_other w b k cs hk⟩
/-- A new object that is no row. -/
structure Newo (w : World) (g : Nat) (o : Obj) (w' : World) : Prop where
  eq : w' = w.alloc o
  num : g = w.heap.size
theorem Newo.at_ {w w' : World} {g : Nat} {o : Obj} (h : Newo w g o w') : w'.heap[g]? = some o := by rw [h.eq, h.num]; show (w.heap.push _)[w.heap.size]? = _; simp
theorem Newo.heap {w w' : World} {g : Nat} {o : Obj} (h : Newo w g o w') (b : Nat) (hb : b < w.heap.size) : w'.heap[b]? = w.heap[b]? := by rw [h.eq]; exact Below.heap_alloc w _ b hb
theorem Newo.keep {w w' : World} {g : Nat} {o : Obj} (h : Newo w g o w') {b : Nat} {ds : Array Value} {U : TypeId} (hb : At w b ds U) : At w' b ds U := hb.heap (h.heap b hb.lt)
theorem Newo.keepO {w w' : World} {g : Nat} {o : Obj} (h : Newo w g o w') {B e size n : Nat} {v : Value} {xs : List Value} (ho : Own w B e size v n xs) : Own w' B e size v n xs := ho.heap fun k hk => h.heap k (ho.lt hk)
theorem Newo.below {w w' : World} {g : Nat} {o : Obj} (h : Newo w g o w') {B : Nat} {w0 : World} (hb : Below B w0 w) (hB : B ≤ w0.heap.size) : Below B w0 w' := by
  rw [h.eq]; exact hb.alloc (Nat.le_trans hB hb.size) _
theorem Newo.ne {w w' : World} {g : Nat} {o : Obj} (h : Newo w g o w') {b : Nat} {ds : Array Value} {U : TypeId} (hb : At w b ds U) : b < g := by rw [h.num]; exact hb.lt
theorem Newo.neO {w w' : World} {g : Nat} {o : Obj} (h : Newo w g o w') {B e size n : Nat} {v : Value} {xs : List Value} (ho : Own w B e size v n xs) : ob v ≠ some g := fun e => absurd (ho.lt e) (by rw [h.num]; exact Nat.lt_irrefl _)
theorem Newo.ge {w w' : World} {g : Nat} {o : Obj} (h : Newo w g o w') {B : Nat} {w0 : World} (hb : Below B w0 w) (hB : B ≤ w0.heap.size) : B ≤ g := by rw [h.num]; exact Nat.le_trans hB hb.size
/-! ### Tables -/
section
variable {κ ν : Type} [DecidableEq κ]
def tget : List (κ × ν) → κ → Option ν
  | [], _ => none
  | p :: T, a => if p.1 = a then some p.2 else tget T a
def tset : List (κ × ν) → κ → ν → List (κ × ν)
  | [], a, v => [(a, v)]
  | p :: T, a, v => if p.1 = a then (a, v) :: T else p :: tset T a v
def tdel : List (κ × ν) → κ → List (κ × ν)
  | [], _ => []
  | p :: T, a => if p.1 = a then T else p :: tdel T a
theorem tget_none {T : List (κ × ν)} {a : κ} (h : ∀ p ∈ T, p.1 ≠ a) : tget T a = none := by
  induction T with
  | nil => rfl
  | cons p T ih => rw [tget, if_neg (h p (by simp))]; exact ih fun q hq => h q (by simp [hq])
theorem tset_none {T : List (κ × ν)} {a : κ} {v : ν} (h : ∀ p ∈ T, p.1 ≠ a) : tset T a v = T ++ [(a, v)] := by
  induction T with
  | nil => rfl
  | cons p T ih => rw [tset, if_neg (h p (by simp)), ih fun q hq => h q (by simp [hq])]; rfl
theorem tdel_none {T : List (κ × ν)} {a : κ} (h : ∀ p ∈ T, p.1 ≠ a) : tdel T a = T := by
  induction T with
  | nil => rfl
  | cons p T ih => rw [tdel, if_neg (h p (by simp)), ih fun q hq => h q (by simp [hq])]
theorem tat {T : List (κ × ν)} {a : κ} {v : ν} (hn : (T.map (·.1)).Nodup) : ∀ {j : Nat}, T[j]? = some (a, v) → tget T a = some v ∧ (∀ u, tset T a u = T.set j (a, u)) ∧ tdel T a = T.eraseIdx j := by
  induction T with
  | nil => intro j h; simp at h
  | cons p T ih =>
    intro j h
    rw [List.map_cons, List.nodup_cons] at hn
    cases j with
    | zero =>
      simp only [List.getElem?_cons_zero, Option.some.injEq] at h
      subst h
      refine ⟨by simp [tget], fun u => by simp [tset], by simp [tdel]⟩
    | succ j =>
      rw [List.getElem?_cons_succ] at h
      have hne : p.1 ≠ a := fun e => hn.1 (by rw [e]; exact List.mem_map.2 ⟨(a, v), List.mem_of_getElem? h, rfl⟩)
      obtain ⟨h1, h2, h3⟩ := ih hn.2 h
      exact ⟨by rw [tget, if_neg hne, h1], fun u => by rw [tset, if_neg hne, h2]; rfl, by rw [tdel, if_neg hne, h3]; rfl⟩
theorem tget_mem {T : List (κ × ν)} {a : κ} {v : ν} (h : tget T a = some v) : (a, v) ∈ T := by
  induction T with
  | nil => cases h
  | cons p T ih =>
    rw [tget] at h
    split at h
    · rename_i e; cases h; rw [← e]; simp
    · simp [ih h]
theorem mem_tget {T : List (κ × ν)} {a : κ} {v : ν} (hn : (T.map (·.1)).Nodup) (h : (a, v) ∈ T) : tget T a = some v := by
  obtain ⟨j, hj⟩ := List.getElem?_of_mem h
  exact (tat hn hj).1
theorem tget_not {T : List (κ × ν)} {a : κ} (h : tget T a = none) : ∀ p ∈ T, p.1 ≠ a := by
  induction T with
  | nil => intro p hp; cases hp
  | cons p T ih =>
    rw [tget] at h
    split at h
    · cases h
    · intro q hq
      rcases List.mem_cons.1 hq with rfl | hq
      · assumption
      · exact ih h q hq
theorem tget_set (T : List (κ × ν)) (a b : κ) (v : ν) : tget (tset T a v) b = if a = b then some v else tget T b := by
  induction T with
  | nil => simp [tset, tget]
  | cons p T ih =>
    rw [tset]
    by_cases e : p.1 = a
    · rw [if_pos e, tget]
      by_cases eb : a = b
      · simp [eb]
      · rw [if_neg eb, if_neg eb, tget, if_neg (by rw [e]; exact eb)]
    · rw [if_neg e, tget, ih]
      by_cases eb : p.1 = b
      · rw [if_pos eb, if_neg (by rw [← eb]; exact fun h => e h.symm), tget, if_pos eb]
      · rw [if_neg eb, tget, if_neg eb]
theorem tset_keys (T : List (κ × ν)) (a : κ) (v : ν) : ∀ p ∈ tset T a v, p = (a, v) ∨ p ∈ T := by
  induction T with
  | nil => intro p hp; simp [tset] at hp; exact .inl hp
  | cons q T ih =>
    intro p hp
    rw [tset] at hp
    split at hp
    · rcases List.mem_cons.1 hp with h | h
      · exact .inl h
      · exact .inr (by simp [h])
    · rcases List.mem_cons.1 hp with h | h
      · exact .inr (by simp [h])
      · rcases ih p h with h | h
        · exact .inl h
        · exact .inr (by simp [h])
theorem tset_nodup {T : List (κ × ν)} (a : κ) (v : ν) (h : (T.map (·.1)).Nodup) : ((tset T a v).map (·.1)).Nodup := by
  induction T with
  | nil => simp [tset]
  | cons p T ih =>
    rw [List.map_cons, List.nodup_cons] at h
    rw [tset]
    split
    · rename_i e; rw [List.map_cons, List.nodup_cons, ← e]; exact h
    · rename_i e
      rw [List.map_cons, List.nodup_cons]
      refine ⟨fun hm => ?_, ih h.2⟩
      obtain ⟨q, hq, hqe⟩ := List.mem_map.1 hm
      rcases tset_keys T a v q hq with rfl | hq
      · exact e hqe.symm
      · exact h.1 (List.mem_map.2 ⟨q, hq, hqe⟩)
theorem tdel_sub (T : List (κ × ν)) (a : κ) : (tdel T a).Sublist T := by
  induction T with
  | nil => exact List.Sublist.slnil
  | cons p T ih =>
    rw [tdel]
    split
    · exact List.sublist_cons_self _ _
    · exact ih.cons_cons _
theorem tdel_nodup {T : List (κ × ν)} (a : κ) (h : (T.map (·.1)).Nodup) : ((tdel T a).map (·.1)).Nodup := h.sublist ((tdel_sub T a).map _)
theorem tget_del {T : List (κ × ν)} (h : (T.map (·.1)).Nodup) (a b : κ) : tget (tdel T a) b = if a = b then none else tget T b := by
  induction T with
  | nil => simp [tdel, tget]
  | cons p T ih =>
    rw [List.map_cons, List.nodup_cons] at h
    rw [tdel]
    by_cases e : p.1 = a
    · rw [if_pos e]
      by_cases eb : a = b
      · rw [if_pos eb]
        exact tget_none fun q hq hqe => h.1 (List.mem_map.2 ⟨q, hq, by rw [hqe, ← eb, e]⟩)
      · rw [if_neg eb, tget, if_neg (by rw [e]; exact eb)]
    · rw [if_neg e, tget, ih h.2, tget]
      by_cases eb : p.1 = b
      · rw [if_pos eb, if_neg (by rw [← eb]; exact fun h => e h.symm), if_pos eb]
      · rw [if_neg eb, if_neg eb]
/-- What is asked of a map's keys. -/
structure MapK (P : Program) (k : TypeId) (kv : κ → Value) (ok : κ → Prop) : Prop where
  keyed : Maps.Keyed P k
  inj : ∀ a b, kv a = kv b → a = b
  lit : ∀ a, ok a → ∃ l, keyOf P k (kv a) = some l
/-- A map that holds a table. -/
def TMap (kv : κ → Value) (vv : ν → Value) (ok : κ → Prop) (w : World) (b : Nat) (T : List (κ × ν)) : Prop :=
  ∃ es clock, w.heap[b]? = some (.map es clock) ∧ Stamped es clock ∧ es.toList.map (fun e => (e.key, e.val)) = T.map (fun p => (kv p.1, vv p.2)) ∧ ∀ p ∈ T, ok p.1
variable {kv : κ → Value} {vv : ν → Value} {ok : κ → Prop} {T : List (κ × ν)}
theorem TMap.heap {w w' : World} {b : Nat} (h : TMap kv vv ok w b T) (e : w'.heap[b]? = w.heap[b]?) : TMap kv vv ok w' b T := by
  obtain ⟨es, c, h1, h2⟩ := h
  exact ⟨es, c, e.trans h1, h2⟩
theorem TMap.lt {w : World} {b : Nat} (h : TMap kv vv ok w b T) : b < w.heap.size := by
  obtain ⟨es, c, h1, _⟩ := h
  exact (Array.getElem?_eq_some_iff.1 h1).1
theorem TMap.call {w w' : World} {b : Nat} (h : TMap kv vv ok w b T) (hb : Below w.heap.size w w') : TMap kv vv ok w' b T := h.heap (hb.block b h.lt)
theorem TMap.new {w w' : World} {b g : Nat} {cs : Array Value} {U : TypeId} (h : TMap kv vv ok w b T) (hN : Newb w g cs U w') : TMap kv vv ok w' b T := h.heap (hN.heap b h.lt)
theorem TMap.newo {w w' : World} {b g : Nat} {o : Obj} (h : TMap kv vv ok w b T) (hN : Newo w g o w') : TMap kv vv ok w' b T := h.heap (hN.heap b h.lt)
theorem TMap.chg {w w' : World} {b k : Nat} (h : TMap kv vv ok w b T) (hN : Chg w k w') (hne : b ≠ k) : TMap kv vv ok w' b T := h.heap (hN.heap b hne)
theorem TMap.grew {w w' : World} {b : Nat} {v v' : Value} (h : TMap kv vv ok w b T) (hN : Grew w v w' v') (hne : ob v ≠ some b) : TMap kv vv ok w' b T := h.heap (hN.block b h.lt hne)
theorem TMap.oks {w : World} {b : Nat} (h : TMap kv vv ok w b T) : ∀ p ∈ T, ok p.1 := by
  obtain ⟨es, c, h1, h2, h3, h4⟩ := h
  exact h4
theorem TMap.nodup {w : World} {b : Nat} {P : Program} {k : TypeId} (K : MapK P k kv ok) (h : TMap kv vv ok w b T) : (T.map (·.1)).Nodup := by
  obtain ⟨es, c, h1, h2, h3, h4⟩ := h
  have hk := h2.2.2
  have e : es.toList.map (·.key) = T.map (fun p => kv p.1) := by
    have := congrArg (List.map Prod.fst) h3
    rw [List.map_map, List.map_map] at this; exact this
  rw [e, show (fun p : κ × ν => kv p.1) = kv ∘ (·.1) from rfl, ← List.map_map] at hk
  exact List.Pairwise.of_map kv (fun a b hab e => hab (by rw [e])) hk
theorem TMap.empty {w w' : World} {g c : Nat} (h : Newo w g (.map #[] c) w') : TMap kv vv ok w' g [] := ⟨#[], c, h.at_, stamped_empty c, rfl, fun p hp => by cases hp⟩
/-- What the search finds. -/
theorem TMap.find {P : Program} {k : TypeId} (K : MapK P k kv ok) {w : World} {b : Nat} (h : TMap kv vv ok w b T) {a : κ} (ha : ok a) : ∃ es clock, w.heap[b]? = some (.map es clock) ∧ Stamped es clock ∧ es.toList.map (fun e => (e.key, e.val)) = T.map (fun p => (kv p.1, vv p.2)) ∧
    (((Instr.findKey k (kv a) es.toList).run P w = .ok none w ∧ (∀ e ∈ es.toList, e.key ≠ kv a) ∧ ∀ p ∈ T, p.1 ≠ a) ∨
     ∃ j e v, (Instr.findKey k (kv a) es.toList).run P w = .ok (some (j, e.val)) w ∧ es.toList[j]? = some e ∧ e.key = kv a ∧ e.val = vv v ∧ T[j]? = some (a, v)) := by
  obtain ⟨es, clock, h1, h2, h3, h4⟩ := h
  obtain ⟨l, hl⟩ := K.lit a ha
  refine ⟨es, clock, h1, h2, h3, ?_⟩
  have mem : ∀ e ∈ es.toList, ∃ p ∈ T, kv p.1 = e.key ∧ vv p.2 = e.val := fun e he => by
    have : (e.key, e.val) ∈ T.map (fun p => (kv p.1, vv p.2)) := by rw [← h3]; exact List.mem_map.2 ⟨e, he, rfl⟩
    obtain ⟨p, hp, hpe⟩ := List.mem_map.1 this
    simp only [Prod.mk.injEq] at hpe
    exact ⟨p, hp, hpe⟩
  rcases K.keyed.find w hl es.toList (fun e he => by
    obtain ⟨p, hp, hpk, _⟩ := mem e he
    obtain ⟨l', hl'⟩ := K.lit p.1 (h4 p hp)
    exact ⟨l', by rw [← hpk]; exact hl'⟩) with ⟨hr, hn⟩ | ⟨j, e, hr, he, hk⟩
  · refine .inl ⟨hr, hn, fun p hp e => ?_⟩
    have : (kv p.1, vv p.2) ∈ es.toList.map (fun e => (e.key, e.val)) := by rw [h3]; exact List.mem_map.2 ⟨p, hp, rfl⟩
    obtain ⟨x, hx, hxe⟩ := List.mem_map.1 this
    simp only [Prod.mk.injEq] at hxe
    exact hn x hx (by rw [hxe.1, e])
  · have hT : (T.map (fun p => (kv p.1, vv p.2)))[j]? = some (e.key, e.val) := by rw [← h3, List.getElem?_map, he]; rfl
    rw [List.getElem?_map] at hT
    cases hTj : T[j]? with
    | none => rw [hTj] at hT; cases hT
    | some p =>
      rw [hTj] at hT
      simp only [Option.map_some, Option.some.injEq, Prod.mk.injEq] at hT
      obtain rfl : p.1 = a := K.inj _ _ (hT.1.trans hk)
      exact .inr ⟨j, e, p.2, hr, he, hk, hT.2.symm, hTj⟩
variable {P : Program} {l : Env} {w : World} {D : Option Tmp} {TT : TypeId} {S : String} {F : Array Edge} {g : Option (Nat × Bool)} {k e t : TypeId} {b : Nat} {a : κ}
theorem run_getMap {es : Array MapEntry} {c : Nat} (h : w.heap[b]? = some (.map es c)) : (getObj b).run P w = .ok (.map es c) w := MapKept.run_getObj_map h
theorem R_lookup {x y : Operand} {z v : Value} (K : MapK P k kv ok) (hx : ev l x = some (.map (some b))) (hy : ev l y = some (kv a)) (ht : P.underlying t = some (.map k e)) (hz : zeroIs P e z) (hm : TMap kv vv ok w b T) (ha : ok a)
    (hv : (match tget T a with | some u => vv u | none => z) = v) : Runs P l ⟨D, .lookup t x y false, TT, S, F, g⟩ w v w := fun ρ h => by
  subst hv
  show (do pure (Next.value (← Instr.lookup t (ρ x) (ρ y) false)) : Sem Next).run P w = _
  rw [h x _ hx, h y _ hy]
  refine run_value ?_
  have hn := hm.nodup K
  obtain ⟨lk, hl⟩ := K.lit a ha
  obtain ⟨es, c, h1, h2, h3, h4⟩ := hm.find K ha
  rcases h4 with ⟨hr, _, hne⟩ | ⟨j, e0, u, hr, he, hk, hv, hT⟩
  · rw [tget_none hne]
    simp [Instr.lookup, run_underlying ht, run_getMap h1, K.keyed.check w _ hl, hr, run_zero hz, Result.andThen]
  · rw [(tat hn hT).1]
    simp [Instr.lookup, run_underlying ht, run_getMap h1, K.keyed.check w _ hl, hr, hv, Result.andThen]
theorem R_lookup2 {x y : Operand} {z v : Value} (K : MapK P k kv ok) (hx : ev l x = some (.map (some b))) (hy : ev l y = some (kv a)) (ht : P.underlying t = some (.map k e)) (hz : zeroIs P e z) (hm : TMap kv vv ok w b T) (ha : ok a)
    (hv : (match tget T a with | some u => .tuple #[vv u, .bool true] | none => .tuple #[z, .bool false]) = v) : Runs P l ⟨D, .lookup t x y true, TT, S, F, g⟩ w v w := fun ρ h => by
  subst hv
  show (do pure (Next.value (← Instr.lookup t (ρ x) (ρ y) true)) : Sem Next).run P w = _
  rw [h x _ hx, h y _ hy]
  refine run_value ?_
  have hn := hm.nodup K
  obtain ⟨lk, hl⟩ := K.lit a ha
  obtain ⟨es, c, h1, h2, h3, h4⟩ := hm.find K ha
  rcases h4 with ⟨hr, _, hne⟩ | ⟨j, e0, u, hr, he, hk, hv, hT⟩
  · rw [tget_none hne]
    simp [Instr.lookup, run_underlying ht, run_getMap h1, K.keyed.check w _ hl, hr, run_zero hz, Result.andThen]
  · rw [(tat hn hT).1]
    simp [Instr.lookup, run_underlying ht, run_getMap h1, K.keyed.check w _ hl, hr, hv, Result.andThen]
theorem modify_set {α : Type} (f : α → α) : ∀ (l : List α) (j : Nat) (x : α), l[j]? = some x → l.modify j f = l.set j (f x) := by
  intro l
  induction l with
  | nil => intro j x h; simp at h
  | cons y l ih =>
    intro j x h
    cases j with
    | zero => simp only [List.getElem?_cons_zero, Option.some.injEq] at h; subst h; rfl
    | succ j =>
      rw [List.getElem?_cons_succ] at h
      simp [ih j x h]
theorem upd_run (K : MapK P k kv ok) (ht : P.underlying t = some (.map k e)) (hm : TMap kv vv ok w b T) (ha : ok a) (u : ν) : ∃ w', (Instr.mapUpdate t (.map (some b)) (kv a) (vv u)).run P w = .ok () w' ∧ Chg w b w' ∧ TMap kv vv ok w' b (tset T a u) := by
  have hn := hm.nodup K
  have hok := hm.oks
  have hlt := hm.lt
  obtain ⟨lk, hl⟩ := K.lit a ha
  obtain ⟨es, c, h1, h2, h3, h4⟩ := hm.find K ha
  have hok' : ∀ p ∈ tset T a u, ok p.1 := fun p hp => by
    rcases tset_keys T a u p hp with rfl | hp
    · exact ha
    · exact hok p hp
  have hat : ∀ o, (setBlock w b o).heap[b]? = some o := fun o => by simp [setBlock, hlt]
  rcases h4 with ⟨hr, hne, hneT⟩ | ⟨j, e0, u0, hr, he, hk, hv, hT⟩
  · refine ⟨setBlock w b (.map (es.push ⟨kv a, vv u, c⟩) (c + 1)), ?_, Chg.block _ _ _, _, _, hat _, stamped_push h2 hne, ?_, hok'⟩
    · simp [Instr.mapUpdate, run_underlying ht, run_getMap h1, K.keyed.check w _ hl, hr, MapKept.run_setObj_map _ h1, Result.andThen, setBlock]
    · rw [tset_none hneT, Array.toList_push, List.map_append, List.map_append, h3]; rfl
  · have hj : es[j]? = some e0 := by simpa using he
    have hkeyf : ∀ e' ∈ es.toList, es[j]? = some e' → ({ e' with key := kv a, val := vv u } : MapEntry).key = e'.key := fun e' _ he' => by rw [hj] at he'; cases he'; exact hk.symm
    refine ⟨setBlock w b (.map (es.modify j (fun e' => { e' with key := kv a, val := vv u })) c), ?_, Chg.block _ _ _, _, _, hat _, stamped_modify h2 _ _ (fun _ _ => rfl) hkeyf, ?_, hok'⟩
    · simp [Instr.mapUpdate, run_underlying ht, run_getMap h1, K.keyed.check w false hl, hr, hj, hk, K.keyed.stays w hl, MapKept.run_setObj_map _ h1, Result.andThen, setBlock]
    · rw [(tat hn hT).2.1 u, Array.toList_modify, modify_set _ _ _ _ he, List.map_set, List.map_set, h3]
theorem del_run {ty : TypeId} (K : MapK P k kv ok) (ht : P.underlying t = some (.map k e)) (hm : TMap kv vv ok w b T) (ha : ok a) : ∃ w', (Builtin.delete_ #[t, k] ty #[.map (some b), kv a]).run P w = .ok (.tuple #[]) w' ∧ Chg w b w' ∧ TMap kv vv ok w' b (tdel T a) := by
  have hn := hm.nodup K
  have hok := hm.oks
  have hlt := hm.lt
  obtain ⟨lk, hl⟩ := K.lit a ha
  obtain ⟨es, c, h1, h2, h3, h4⟩ := hm.find K ha
  have hok' : ∀ p ∈ tdel T a, ok p.1 := fun p hp => hok p ((tdel_sub T a).subset hp)
  have hat : ∀ o, (setBlock w b o).heap[b]? = some o := fun o => by simp [setBlock, hlt]
  rcases h4 with ⟨hr, hne, hneT⟩ | ⟨j, e0, u0, hr, he, hk, hv, hT⟩
  · refine ⟨setBlock w b (.map es c), ?_, Chg.block _ _ _, _, _, hat _, h2, by rw [tdel_none hneT]; exact h3, hok'⟩
    simp [Builtin.delete_, run_underlying ht, run_getMap h1, K.keyed.check w _ hl, hr, MapKept.run_setObj_map _ h1, Result.andThen, setBlock]
  · have hjl : j < es.toList.length := (List.getElem?_eq_some_iff.1 he).1
    have hsub : (es.eraseIdxIfInBounds j).toList = es.toList.eraseIdx j := by
      unfold Array.eraseIdxIfInBounds
      rw [dif_pos (by simpa using hjl)]
      simp
    refine ⟨setBlock w b (.map (es.eraseIdxIfInBounds j) c), ?_, Chg.block _ _ _, _, _, hat _, stamped_erase h2 j, ?_, hok'⟩
    · simp [Builtin.delete_, run_underlying ht, run_getMap h1, K.keyed.check w _ hl, hr, MapKept.run_setObj_map _ h1, Result.andThen, setBlock]
    · rw [(tat hn hT).2.2, hsub, ChangeMaps.map_eraseIdx, ChangeMaps.map_eraseIdx, h3]
variable {G : List (Option Nat)} {Q : Exit → Act → World → Prop} {n : Nat}
theorem WL_mapUpdate {x y z : Operand} {u : ν} {rest : List Oper} (K : MapK P k kv ok) (hw : on G l g = true) (hx : ev l x = some (.map (some b))) (hy : ev l y = some (kv a)) (hz : ev l z = some (vv u)) (ht : P.underlying t = some (.map k e)) (hm : TMap kv vv ok w b T) (ha : ok a)
    (h : ∀ w', Chg w b w' → TMap kv vv ok w' b (tset T a u) → WL P G Q rest l n w') : WL P G Q (⟨none, .mapUpdate t x y z, TT, S, F, g⟩ :: rest) l n w := by
  obtain ⟨w', hr, hc, hT⟩ := upd_run K ht hm ha u
  refine WL_u hw rfl (fun ρ hf => ?_) (h w' hc hT)
  show (do Instr.mapUpdate t (ρ x) (ρ y) (ρ z); pure Next.skip : Sem Next).run P w = _
  rw [hf x _ hx, hf y _ hy, hf z _ hz]
  exact run_skip hr
theorem WL_delete {x y : Operand} {ats : Array TypeId} {rest : List Oper} (K : MapK P k kv ok) (hw : on G l g = true) (hx : ev l x = some (.map (some b))) (hy : ev l y = some (kv a)) (hats : ats = #[t, k]) (ht : P.underlying t = some (.map k e)) (hm : TMap kv vv ok w b T) (ha : ok a)
    (h : ∀ w', Chg w b w' → TMap kv vv ok w' b (tdel T a) → WL P G Q rest l n w') : WL P G Q (⟨none, .call ⟨.builtin .delete, #[x, y], ats⟩, TT, S, F, g⟩ :: rest) l n w := by
  obtain ⟨w', hr, hc, hT⟩ := del_run (ty := TT) K ht hm ha
  refine WL_vn (v := .tuple #[]) hw rfl (fun ρ hf => ?_) (h w' hc hT)
  subst hats
  unfold execOp
  simp [resolve, invoke, builtin, hf x _ hx, hf y _ hy, hr, Result.andThen]
theorem WL_makeMap {d : Nat} {rest : List Oper} (hw : on G l g = true) (hn : Nat.blt d n = true)
    (h : ∀ r w', Newo w r (.map #[] 0) w' → WL P G Q rest ((d, .map (some r)) :: l) n w') : WL P G Q (⟨some d, .makeMap t none, TT, S, F, g⟩ :: rest) l n w :=
  WL_v hw rfl hn (fun ρ hf => run_value (run_makeMap t w)) (h _ _ ⟨rfl, rfl⟩)
theorem R_lenMap {x : Operand} {ty : TypeId} (hu : P.underlying t = some (.map k e)) (hx : ev l x = some (.map (some b))) (hm : TMap kv vv ok w b T) : Runs P l ⟨D, .call ⟨.builtin .len, #[x], #[t]⟩, ty, S, F, g⟩ w (.int .i64 (T.length : Int)) w := fun ρ h => by
  obtain ⟨es, c, h1, h2, h3, h4⟩ := hm
  have hs : es.size = T.length := by simpa using congrArg List.length h3
  unfold execOp; simp [resolve, invoke, builtin, h x _ hx, Builtin.len_, run_underlying hu, run_getMap h1, Result.andThen, goInt, hs]
/-- A loop over a map: block r iterates over block b, which holds T; V has come. -/
def Iter (kv : κ → Value) (vv : ν → Value) (ok : κ → Prop) (w : World) (r b : Nat) (T V : List (κ × ν)) : Prop :=
  ∃ es clock since seen c0, ∃ Ve : List MapEntry, w.heap[b]? = some (.map es clock) ∧ Stamped es clock ∧ es.toList.map (fun e => (e.key, e.val)) = T.map (fun p => (kv p.1, vv p.2)) ∧ (∀ p ∈ T, ok p.1) ∧
    w.heap[r]? = some (.mapIter (some b) since seen c0) ∧ (∀ x ∈ es.toList, x.born < since) ∧ since ≤ c0 ∧ since ≤ clock ∧ Ve.map (·.born) = seen.toList ∧ (∀ x ∈ Ve, x ∈ es.toList) ∧ (Ve.map (·.born)).Nodup ∧
    Ve.map (fun e => (e.key, e.val)) = V.map (fun p => (kv p.1, vv p.2)) ∧ ∀ p ∈ V, p ∈ T
theorem Iter.heap {w w' : World} {r b : Nat} {V : List (κ × ν)} (h : Iter kv vv ok w r b T V) (hb : w'.heap[b]? = w.heap[b]?) (hr : w'.heap[r]? = w.heap[r]?) : Iter kv vv ok w' r b T V := by
  obtain ⟨es, clock, since, seen, c0, Ve, h1, h2, h3, h4, h5, h6⟩ := h
  exact ⟨es, clock, since, seen, c0, Ve, hb.trans h1, h2, h3, h4, hr.trans h5, h6⟩
theorem Iter.map {w : World} {r b : Nat} {V : List (κ × ν)} (h : Iter kv vv ok w r b T V) : TMap kv vv ok w b T := by
  obtain ⟨es, clock, since, seen, c0, Ve, h1, h2, h3, h4, h5, h6⟩ := h
  exact ⟨es, clock, h1, h2, h3, h4⟩
theorem Iter.ltr {w : World} {r b : Nat} {V : List (κ × ν)} (h : Iter kv vv ok w r b T V) : r < w.heap.size := by
  obtain ⟨es, clock, since, seen, c0, Ve, h1, h2, h3, h4, h5, h6⟩ := h
  exact (Array.getElem?_eq_some_iff.1 h5).1
theorem Iter.call {w w' : World} {r b : Nat} {V : List (κ × ν)} (h : Iter kv vv ok w r b T V) (hb : Below w.heap.size w w') : Iter kv vv ok w' r b T V := h.heap (hb.block b h.map.lt) (hb.block r h.ltr)
theorem Iter.new {w w' : World} {r b g : Nat} {V : List (κ × ν)} {cs : Array Value} {U : TypeId} (h : Iter kv vv ok w r b T V) (hN : Newb w g cs U w') : Iter kv vv ok w' r b T V := h.heap (hN.heap b h.map.lt) (hN.heap r h.ltr)
theorem Iter.newo {w w' : World} {r b g : Nat} {V : List (κ × ν)} {o : Obj} (h : Iter kv vv ok w r b T V) (hN : Newo w g o w') : Iter kv vv ok w' r b T V := h.heap (hN.heap b h.map.lt) (hN.heap r h.ltr)
theorem Iter.chg {w w' : World} {r b k : Nat} {V : List (κ × ν)} (h : Iter kv vv ok w r b T V) (hN : Chg w k w') (h1 : b ≠ k) (h2 : r ≠ k) : Iter kv vv ok w' r b T V := h.heap (hN.heap b h1) (hN.heap r h2)
theorem Iter.grew {w w' : World} {r b : Nat} {V : List (κ × ν)} {v v' : Value} (h : Iter kv vv ok w r b T V) (hN : Grew w v w' v') (h1 : ob v ≠ some b) (h2 : ob v ≠ some r) : Iter kv vv ok w' r b T V := h.heap (hN.block b h.map.lt h1) (hN.block r h.ltr h2)
theorem Iter.ne {w : World} {r b : Nat} {V : List (κ × ν)} (h : Iter kv vv ok w r b T V) : r ≠ b := by
  obtain ⟨es, clock, since, seen, c0, Ve, h1, h2, h3, h4, h5, h6⟩ := h
  rintro rfl
  rw [h1] at h5; cases h5
theorem WL_range {x : Operand} {d : Nat} {rest : List Oper} (hw : on G l g = true) (hn : Nat.blt d n = true) (hx : ev l x = some (.map (some b))) (ht : P.underlying t = some (.map k e)) (hm : TMap kv vv ok w b T)
    (h : ∀ r w', w.heap.size = r → Below w.heap.size w w' → Iter kv vv ok w' r b T [] → WL P G Q rest ((d, .pointer (some ⟨r, 0, none⟩)) :: l) n w') : WL P G Q (⟨some d, .range t x, TT, S, F, g⟩ :: rest) l n w := by
  have hlt := hm.lt
  obtain ⟨es, c, h1, h2, h3, h4⟩ := hm
  have hN : Newo w w.heap.size (.mapIter (some b) c #[] c) (w.alloc (.mapIter (some b) c #[] c)) := ⟨rfl, rfl⟩
  refine WL_v hw rfl hn (fun ρ hf => ?_) (h w.heap.size _ rfl (hN.below (Below.refl _ _) (Nat.le_refl _)) ⟨es, c, c, #[], c, [], (hN.heap b hlt).trans h1, h2, h3, h4, hN.at_, h2.1, Nat.le_refl _, Nat.le_refl _, rfl, (fun x hx => by cases hx), List.nodup_nil, rfl, fun p hp => by cases hp⟩)
  show (do pure (Next.value (← Instr.range t (ρ x))) : Sem Next).run P w = _
  rw [hf x _ hx]
  refine run_value ?_
  simp [Instr.range, run_underlying ht, run_getMap h1, Result.andThen, newObj, Sem.run]
theorem nodup_map_of {α β : Type} (f : α → β) : ∀ (L : List α), (L.map f).Nodup → ∀ a ∈ L, ∀ b ∈ L, f a = f b → a = b
  | [], _ => fun a ha => by cases ha
  | x :: L, h => by
    rw [List.map_cons, List.nodup_cons] at h
    intro a ha b hb hab
    rcases List.mem_cons.1 ha with ha1 | ha1
    · rcases List.mem_cons.1 hb with hb1 | hb1
      · rw [ha1, hb1]
      · exact absurd (List.mem_map.2 ⟨b, hb1, by rw [← hab, ha1]⟩) h.1
    · rcases List.mem_cons.1 hb with hb1 | hb1
      · exact absurd (List.mem_map.2 ⟨a, ha1, by rw [hab, hb1]⟩) h.1
      · exact nodup_map_of f L h.2 a ha1 b hb1 hab
theorem nodup_of_map {α β : Type} (f : α → β) {L : List α} (h : (L.map f).Nodup) : L.Nodup := List.Pairwise.of_map f (fun a b hab e => hab (by rw [e])) h
/-- The step: nothing is left, or one that has not come yet comes. -/
theorem WL_next {x : Operand} {d r : Nat} {V : List (κ × ν)} {rest : List Oper} (K : MapK P k kv ok) (hvv : ∀ u u' : ν, vv u = vv u' → u = u') (hw : on G l g = true) (hn : Nat.blt d n = true) (hx : ev l x = some (.pointer (some ⟨r, 0, none⟩))) (hI : Iter kv vv ok w r b T V)
    (h0 : V.Perm T → WL P G Q rest ((d, .tuple #[.bool false]) :: l) n w)
    (h1 : ∀ p w', p ∈ T → p ∉ V → Chg w r w' → Iter kv vv ok w' r b T (V ++ [p]) → (Instr.entry (.pointer (some ⟨r, 0, none⟩))).run P w' = .ok (.tuple #[kv p.1, vv p.2]) w' → WL P G Q rest ((d, .tuple #[.bool true, kv p.1, vv p.2]) :: l) n w') :
    WL P G Q (⟨some d, .next x false, TT, S, F, g⟩ :: rest) l n w := by
  have hmap := hI.map
  have hlr := hI.ltr
  have hrb := hI.ne
  obtain ⟨es, clock, since, seen, c0, Ve, hb, hS, hT, hok, hr, hold, hsc, hsk, hVs, hVe, hVn, hVV, hVT⟩ := hI
  have hdup := hmap.nodup K
  have enc : ∀ p q : κ × ν, (kv p.1, vv p.2) = (kv q.1, vv q.2) → p = q := fun p q h => by
    simp only [Prod.mk.injEq] at h
    exact Prod.ext (K.inj _ _ h.1) (hvv _ _ h.2)
  have pairOf : ∀ e ∈ es.toList, ∃ p ∈ T, (kv p.1, vv p.2) = (e.key, e.val) := fun e he => by
    have : (e.key, e.val) ∈ T.map (fun p => (kv p.1, vv p.2)) := by rw [← hT]; exact List.mem_map.2 ⟨e, he, rfl⟩
    exact List.mem_map.1 this
  have entOf : ∀ p ∈ T, ∃ e ∈ es.toList, (e.key, e.val) = (kv p.1, vv p.2) := fun p hp => by
    have : (kv p.1, vv p.2) ∈ es.toList.map (fun e => (e.key, e.val)) := by rw [hT]; exact List.mem_map.2 ⟨p, hp, rfl⟩
    exact List.mem_map.1 this
  have vOf : ∀ e ∈ Ve, ∃ p ∈ V, (kv p.1, vv p.2) = (e.key, e.val) := fun e he => by
    have : (e.key, e.val) ∈ V.map (fun p => (kv p.1, vv p.2)) := by rw [← hVV]; exact List.mem_map.2 ⟨e, he, rfl⟩
    exact List.mem_map.1 this
  have veOf : ∀ p ∈ V, ∃ e ∈ Ve, (e.key, e.val) = (kv p.1, vv p.2) := fun p hp => by
    have : (kv p.1, vv p.2) ∈ Ve.map (fun e => (e.key, e.val)) := by rw [hVV]; exact List.mem_map.2 ⟨p, hp, rfl⟩
    exact List.mem_map.1 this
  have same : ∀ e ∈ es.toList, ∀ e' ∈ es.toList, e.key = e'.key → e = e' := nodup_map_of (fun e : MapEntry => e.key) _ hS.2.2
  have sameB : ∀ e ∈ es.toList, ∀ e' ∈ es.toList, e.born = e'.born → e = e' := nodup_map_of (fun e : MapEntry => e.born) _ hS.2.1
  rcases run_next_at (P := P) w TT r b since c0 seen es clock hr hb hold hsc with ⟨hz, hrun⟩ | ⟨e0, he0, w1, hw1, hrun⟩
  · refine WL_v hw rfl hn (fun ρ hf => ?_) (h0 ?_)
    · show (do pure (Next.value (← Instr.next (ρ x) false TT)) : Sem Next).run P w = _
      rw [hf x _ hx]
      exact run_value hrun
    · have hVnd : V.Nodup := by
        have hkn : (V.map (fun p => (kv p.1, vv p.2))).Nodup := by
          rw [← hVV]
          have hVeN : Ve.Nodup := nodup_of_map (fun e : MapEntry => e.born) hVn
          rw [List.Nodup, List.pairwise_map]
          refine hVeN.imp_of_mem (fun {a c} ha hc hne e => hne ?_)
          simp only [Prod.mk.injEq] at e
          exact same a (hVe a ha) c (hVe c hc) e.1
        exact nodup_of_map _ hkn
      refine (List.perm_ext_iff_of_nodup hVnd (nodup_of_map _ hdup)).2 fun p => ⟨hVT p, fun hp => ?_⟩
      obtain ⟨e, he, hep⟩ := entOf p hp
      have hs := all_seen es seen hz e he
      have hs' : e.born ∈ Ve.map (·.born) := by rw [hVs]; simpa using hs
      obtain ⟨e', he', hb'⟩ := List.mem_map.1 hs'
      have := sameB e' (hVe e' he') e he hb'
      subst this
      obtain ⟨q, hq, hqe⟩ := vOf e' he'
      rw [hep] at hqe
      rw [← enc q p hqe]; exact hq
  · obtain ⟨hmem, hns⟩ := mem_left he0
    obtain ⟨p, hp, hpe⟩ := pairOf e0 hmem
    have hns' : e0.born ∉ Ve.map (·.born) := by rw [hVs]; simpa using hns
    have hnv : p ∉ V := fun hpv => by
      obtain ⟨e, he, hee⟩ := veOf p hpv
      have : e = e0 := same e (hVe e he) e0 hmem (by
        have := hee.trans hpe
        simp only [Prod.mk.injEq] at this; exact this.1)
      subst this
      exact hns' (List.mem_map.2 ⟨e, he, rfl⟩)
    have hk1 : kv p.1 = e0.key := (Prod.mk.inj hpe).1
    have hk2 : vv p.2 = e0.val := (Prod.mk.inj hpe).2
    have hb1 : (setBlock w1 r (.mapIter (some b) since (seen.push e0.born) clock)).heap[b]? = some (.map es clock) := by
      rcases hw1 with rfl | rfl <;> exact (Chg.heap (Chg.block _ r _) b (Ne.symm hrb)).trans hb
    have hr1 : (setBlock w1 r (.mapIter (some b) since (seen.push e0.born) clock)).heap[r]? = some (.mapIter (some b) since (seen.push e0.born) clock) := by
      rcases hw1 with rfl | rfl <;> simp [setBlock, hlr]
    have hc : Chg w r (setBlock w1 r (.mapIter (some b) since (seen.push e0.born) clock)) := by
      rcases hw1 with rfl | rfl
      · exact Chg.block _ _ _
      · exact Chg.blockD _ _ _
    have hI' : Iter kv vv ok (setBlock w1 r (.mapIter (some b) since (seen.push e0.born) clock)) r b T (V ++ [p]) := by
      refine ⟨es, clock, since, seen.push e0.born, clock, Ve ++ [e0], hb1, hS, hT, hok, hr1, hold, hsk, hsk, ?_, ?_, ?_, ?_, ?_⟩
      · rw [List.map_append, hVs, Array.toList_push]; rfl
      · intro y hy
        rcases List.mem_append.1 hy with hy | hy
        · exact hVe y hy
        · rw [List.mem_singleton.1 hy]; exact hmem
      · rw [List.map_append, List.nodup_append]
        refine ⟨hVn, by simp, fun a ha c hc => ?_⟩
        simp only [List.map_cons, List.map_nil, List.mem_singleton] at hc
        subst hc
        exact fun e => hns' (e ▸ ha)
      · rw [List.map_append, List.map_append, hVV]
        simp [hk1, hk2]
      · intro q hq
        rcases List.mem_append.1 hq with hq | hq
        · exact hVT q hq
        · rw [List.mem_singleton.1 hq]; exact hp
    have hen := run_entry_at (P := P) _ r b since seen es clock e0 hr1 hb1 hmem hS.2.1
    rw [← hk1, ← hk2] at hen
    refine WL_v hw rfl hn (fun ρ hf => ?_) (h1 p _ hp hnv hc hI' hen)
    show (do pure (Next.value (← Instr.next (ρ x) false TT)) : Sem Next).run P w = _
    rw [hf x _ hx, hk1, hk2]
    exact run_value hrun
theorem Iter.len {w : World} {r b : Nat} {V : List (κ × ν)} (h : Iter kv vv ok w r b T V) : V.length ≤ T.length := by
  obtain ⟨es, clock, since, seen, c0, Ve, h1, h2, h3, h4, h5, h6, h7, h8, h9, hVe, hVn, hVV, _⟩ := h
  have e1 : V.length = (Ve.map (·.born)).length := by have := congrArg List.length hVV; simp only [List.length_map] at *; exact this.symm
  have e2 : T.length = (es.toList.map (·.born)).length := by have := congrArg List.length h3; simp only [List.length_map] at *; exact this.symm
  rw [e1, e2]
  exact hVn.length_le_of_subset (fun x hx => by
    obtain ⟨e, he, rfl⟩ := List.mem_map.1 hx
    exact List.mem_map.2 ⟨e, hVe e he, rfl⟩)
theorem R_entry {x : Operand} {r : Nat} {v : Value} (hx : ev l x = some (.pointer (some ⟨r, 0, none⟩))) (hr : (Instr.entry (.pointer (some ⟨r, 0, none⟩))).run P w = .ok v w) : Runs P l ⟨D, .entry x, TT, S, F, g⟩ w v w := fun ρ h => by
  show (do pure (Next.value (← Instr.entry (ρ x))) : Sem Next).run P w = _
  rw [h x _ hx]
  exact run_value hr
end
end Go.Proofs.YtpggmnomcahijaaDoor.Kw
