/- More rules for the calculus of steps: maps and pointers beside nil, arrays as keys compared, closures. No condition; no program in sight. -/
import Derived.Test.YtpggmnomcahijaaDoorKw7
import Derived.DeepKeys4
import Derived.Laws.Cover3
import Derived.Laws.Pointers
import Derived.Sort.Grow
import Derived.Deep.Draws
namespace Go.Proofs.YtpggmnomcahijaaDoor.Kw
open Go Go.Proofs Go.RowKit
set_option linter.unusedVariables false
set_option linter.unusedSimpArgs false
set_option linter.unusedSectionVars false
theorem At.new {w w' : World} {b g : Nat} {cs ds : Array Value} {T U : TypeId} (h : At w b cs T) (hN : Newb w g ds U w') : At w' b cs T := hN.keep h
theorem At.newo {w w' : World} {b g : Nat} {cs : Array Value} {T : TypeId} {o : Obj} (h : At w b cs T) (hN : Newo w g o w') : At w' b cs T := hN.keep h
theorem At.chg {w w' : World} {b k : Nat} {cs : Array Value} {T : TypeId} (h : At w b cs T) (hN : Chg w k w') (hne : b ≠ k) : At w' b cs T := hN.keep h hne
theorem At.grew {w w' : World} {b : Nat} {cs : Array Value} {T : TypeId} {v v' : Value} (h : At w b cs T) (hN : Grew w v w' v') (hne : ob v ≠ some b) : At w' b cs T := hN.keep h hne
theorem Grew.neLt {w w' : World} {v v' : Value} (h : Grew w v w' v') {b : Nat} (hlt : b < w.heap.size) (hne : ob v ≠ some b) : ob v' ≠ some b := by
  rcases h.fresh with e | ⟨g, e, hg⟩
  · rwa [e]
  · rw [e]; intro e'; have := Option.some.inj e'; omega
section
variable {κ ν : Type} [DecidableEq κ] {kv : κ → Value} {vv : ν → Value} {ok : κ → Prop} {T V : List (κ × ν)}
theorem Iter.lt {w : World} {r b : Nat} (h : Iter kv vv ok w r b T V) : r < w.heap.size := h.ltr
/-- Nothing that was there has turned but what p names. -/
structure Mut (p : Nat → Prop) (w w' : World) : Prop where
  os : w'.os = w.os
  tape : w'.tape = w.tape
  output : w'.output = w.output
  size : w.heap.size ≤ w'.heap.size
  block : ∀ k, k < w.heap.size → ¬ p k → w'.heap[k]? = w.heap[k]?
variable {p q : Nat → Prop} {w0 w w' : World}
theorem Mut.refl (p : Nat → Prop) (w : World) : Mut p w w := ⟨rfl, rfl, rfl, Nat.le_refl _, fun _ _ _ => rfl⟩
theorem Mut.then_ (h : Mut p w0 w) (hm : Mut q w w') (hq : ∀ k, q k → p k ∨ w0.heap.size ≤ k) : Mut p w0 w' :=
  ⟨hm.os.trans h.os, hm.tape.trans h.tape, hm.output.trans h.output, Nat.le_trans h.size hm.size, fun k hk hn =>
    (hm.block k (Nat.lt_of_lt_of_le hk h.size) (fun hqk => by rcases hq k hqk with h1 | h1; exact hn h1; omega)).trans (h.block k hk hn)⟩
theorem Mut.of_below (h : Below w.heap.size w w') : Mut p w w' := ⟨h.os, h.tape, h.output, h.size, fun k hk _ => h.block k hk⟩
theorem Mut.call (h : Mut p w0 w) (hb : Below w.heap.size w w') : Mut p w0 w' := h.then_ (Mut.of_below (p := fun _ => False) hb) (fun _ hf => hf.elim)
theorem Mut.new {g : Nat} {cs : Array Value} {U : TypeId} (h : Mut p w0 w) (N : Newb w g cs U w') : Mut p w0 w' := h.call N.step
theorem Mut.newo {g : Nat} {o : Obj} (h : Mut p w0 w) (N : Newo w g o w') : Mut p w0 w' := h.call (N.below (Below.refl _ _) (Nat.le_refl _))
theorem Mut.drew (h : Mut p w0 w) : Mut p w0 w.drew := ⟨h.os, h.tape, h.output, h.size, h.block⟩
theorem Mut.chg {b : Nat} (h : Mut p w0 w) (C : Chg w b w') (hb : p b ∨ w0.heap.size ≤ b) : Mut p w0 w' :=
  h.then_ (q := fun k => k = b) ⟨C.os, C.tape, C.output, Nat.le_of_eq C.size.symm, fun k _ hk => C.heap k hk⟩ (fun k hk => by subst hk; exact hb)
theorem Mut.grew {v v' : Value} (h : Mut p w0 w) (R : Grew w v w' v') (hv : ∀ g, ob v = some g → p g ∨ w0.heap.size ≤ g) : Mut p w0 w' :=
  h.then_ (q := fun k => ob v = some k) ⟨R.os, R.tape, R.output, R.size, fun k hk hn => R.block k hk hn⟩ (fun k hk => hv k hk)
theorem Mut.ge {g : Nat} {cs : Array Value} {U : TypeId} (h : Mut p w0 w) (N : Newb w g cs U w') : w0.heap.size ≤ g := by rw [N.num]; exact h.size
theorem Mut.geo {g : Nat} {o : Obj} (h : Mut p w0 w) (N : Newo w g o w') : w0.heap.size ≤ g := by rw [N.num]; exact h.size
theorem Mut.mono (h : Mut p w w') (hq : ∀ k, p k → q k) : Mut q w w' := ⟨h.os, h.tape, h.output, h.size, fun k hk hn => h.block k hk (fun hp => hn (hq k hp))⟩
theorem Mut.below {B : Nat} (hb : Below B w0 w) (hB : B ≤ w0.heap.size) (h : Mut p w w') (hp : ∀ k, p k → B ≤ k) : Below B w0 w' :=
  hb.trans ⟨h.os, h.tape, h.output, h.size, fun k hk => h.block k (by have := hb.size; omega) (fun hpk => by have := hp k hpk; omega)⟩
theorem At.mut {b : Nat} {cs : Array Value} {U : TypeId} (h : At w b cs U) (m : Mut p w w') (hn : ¬ p b) : At w' b cs U := h.heap (m.block b h.lt hn)
theorem TMap.mut {b : Nat} (h : TMap kv vv ok w b T) (m : Mut p w w') (hn : ¬ p b) : TMap kv vv ok w' b T := h.heap (m.block b h.lt hn)
theorem Own.mut {B e size n : Nat} {v : Value} {xs : List Value} (h : Own w B e size v n xs) (m : Mut p w w') (hn : ∀ g, ob v = some g → ¬ p g) : Own w' B e size v n xs := h.heap fun g hg => m.block g (h.lt hg) (hn g hg)
end
/-- Draws, and new blocks behind; nothing else. -/
def Gro (w w' : World) : Prop := ∃ q os, w' = Sort.grow (w.drewN q) os
theorem Gro.refl (w : World) : Gro w w := ⟨0, #[], by rw [Sort.grow_empty]; rfl⟩
theorem Gro.alloc {w w' : World} (h : Gro w w') (o : Obj) : Gro w (w'.alloc o) := by
  obtain ⟨q, os, rfl⟩ := h
  exact ⟨q, os ++ #[o], by rw [Sort.alloc_eq_grow, Sort.grow_grow]⟩
theorem Gro.new {w w1 w2 : World} {g : Nat} {cs : Array Value} {T : TypeId} (h : Gro w w1) (N : Newb w1 g cs T w2) : Gro w w2 := by rw [N.eq]; exact h.alloc _
theorem Gro.drew {w w' : World} (h : Gro w w') : Gro w w'.drew := by
  obtain ⟨q, os, rfl⟩ := h
  exact ⟨q + 1, os, rfl⟩
variable {P : Program} {l : Env} {w : World} {D : Option Tmp} {T : TypeId} {S : String} {F : Array Edge} {g : Option (Nat × Bool)} {t t2 : TypeId} {x y : Operand} {z : Bool}
theorem R_eqmn {k e : TypeId} {m : Option Nat} (hx : ev l x = some (.map m)) (hy : ev l y = some (.map none)) (hu : P.underlying t = some (.map k e)) (he : m.isNone = z) : Runs P l ⟨D, .binOp .eql t x y t2, T, S, F, g⟩ w (.bool z) w :=
  run_bin hx hy rfl (by subst he; simp [binOp, run_equal_map_nil (P := P) w t k e m hu, Result.andThen])
theorem R_nemn {k e : TypeId} {m : Option Nat} (hx : ev l x = some (.map m)) (hy : ev l y = some (.map none)) (hu : P.underlying t = some (.map k e)) (he : (!m.isNone) = z) : Runs P l ⟨D, .binOp .neq t x y t2, T, S, F, g⟩ w (.bool z) w :=
  run_bin hx hy rfl (by subst he; simp [binOp, run_equal_map_nil (P := P) w t k e m hu, Result.andThen])
theorem R_eqpn {p : Option Addr} (hx : ev l x = some (.pointer p)) (hy : ev l y = some (.pointer none)) (hu : P.underlying t = some (.pointer (P.pointee t))) (he : p.isNone = z) : Runs P l ⟨D, .binOp .eql t x y t2, T, S, F, g⟩ w (.bool z) w :=
  run_bin hx hy rfl (by subst he; simp [binOp, run_equal_pointer_nil (P := P) w t p hu, Result.andThen])
theorem R_nepn {p : Option Addr} (hx : ev l x = some (.pointer p)) (hy : ev l y = some (.pointer none)) (hu : P.underlying t = some (.pointer (P.pointee t))) (he : (!p.isNone) = z) : Runs P l ⟨D, .binOp .neq t x y t2, T, S, F, g⟩ w (.bool z) w :=
  run_bin hx hy rfl (by subst he; simp [binOp, run_equal_pointer_nil (P := P) w t p hu, Result.andThen])
section
variable {κ : Type} [DecidableEq κ] {kv : κ → Value} {ok : κ → Prop} {a b : κ}
/-- What is asked of a type whose values are compared as keys. -/
structure EqK (P : Program) (t : TypeId) (kv : κ → Value) (ok : κ → Prop) : Prop where
  map : MapK P t kv ok
  deep : ∃ m, m ≤ 10000 ∧ P.keyTypeAt m t = true
  wide : (match P.underlying t with | some (.array _ _) | some (.struct _) => true | _ => false) = true
  guard : P.eqGuardType P.depth t = false
theorem EqK.run (K : EqK P t kv ok) (ha : ok a) (hb : ok b) (w : World) : (Op.equal t (kv a) (kv b)).run P w = .ok (decide (a = b)) w := by
  obtain ⟨la, hla⟩ := K.map.lit a ha
  obtain ⟨lb, hlb⟩ := K.map.lit b hb
  obtain ⟨m, hm, hk⟩ := K.deep
  obtain ⟨r, hr, hiff⟩ := run_equal_deep w hm hk K.wide hla hlb
  rw [hr]
  congr 1
  by_cases e : a = b
  · subst e
    rw [hla] at hlb
    rw [decide_eq_true rfl]
    exact hiff.2 (Option.some.inj hlb)
  · rw [decide_eq_false e]
    cases r with
    | false => rfl
    | true =>
      have hl := hiff.1 rfl
      subst hl
      exact absurd (K.map.inj _ _ (K.map.keyed.inj hla hlb)) e
theorem EqK.noGuard (K : EqK P t kv ok) {op : BinOp} (p q : Operand) (u v : Value) (w : World) (hu : ∃ c, u = .agg c) : (eqGuard op t p q u v).run P w = .ok () w := by
  obtain ⟨c, rfl⟩ := hu
  unfold eqGuard
  cases op <;> cases v <;> simp [program, K.guard, Result.andThen, Sem.run]
theorem R_eqK (K : EqK P t kv ok) (hx : ev l x = some (kv a)) (hy : ev l y = some (kv b)) (ha : ok a) (hb : ok b) (hag : ∃ c, kv a = .agg c) (he : decide (a = b) = z) : Runs P l ⟨D, .binOp .eql t x y t2, T, S, F, g⟩ w (.bool z) w := fun ρ h => by
  subst he
  show (do pure (Next.value (← (do eqGuard .eql t x y (ρ x) (ρ y); binOp .eql t (ρ x) (ρ y)))) : Sem Next).run P w = _
  rw [h x _ hx, h y _ hy]
  refine run_value ?_
  have hr := K.run ha hb w
  have hg := K.noGuard (op := .eql) x y (kv a) (kv b) w hag
  obtain ⟨c, hc⟩ := hag
  rw [hc] at hr hg ⊢
  simp [hg, binOp, hr, Result.andThen]
theorem R_neK (K : EqK P t kv ok) (hx : ev l x = some (kv a)) (hy : ev l y = some (kv b)) (ha : ok a) (hb : ok b) (hag : ∃ c, kv a = .agg c) (he : decide (a = b) = !z) : Runs P l ⟨D, .binOp .neq t x y t2, T, S, F, g⟩ w (.bool z) w := fun ρ h => by
  have he' : z = !decide (a = b) := by rw [he]; simp
  subst he'
  show (do pure (Next.value (← (do eqGuard .neq t x y (ρ x) (ρ y); binOp .neq t (ρ x) (ρ y)))) : Sem Next).run P w = _
  rw [h x _ hx, h y _ hy]
  refine run_value ?_
  have hr := K.run ha hb w
  have hg := K.noGuard (op := .neq) x y (kv a) (kv b) w hag
  obtain ⟨c, hc⟩ := hag
  rw [hc] at hr hg ⊢
  simp [hg, binOp, hr, Result.andThen]
end
theorem R_makeFunc1 {fn : Fn} {v : Value} (hx : ev l x = some v) : Runs P l ⟨D, .makeFunc fn #[] #[x], T, S, F, g⟩ w (.func fn #[] #[v]) w := fun ρ h => by
  show (do pure (Next.value (← Instr.makeFunc fn ((#[] : Array Operand).map ρ) ((#[x] : Array Operand).map ρ))) : Sem Next).run P w = _
  refine run_value ?_
  simp [Instr.makeFunc, h x _ hx]
theorem WX_append {ops : List Oper} {G : List (Option Nat)} {Q : Exit → Act → World → Prop} {n : Nat} {SS : World → Prop} {r : List (Nat × Bool)} {i ty u e size bytes : Nat} {zv : Value} {du : TypeDesc} {d : Nat} {B k m : Nat} {v yv : Value} {xs news : List Value}
    (hi : ops[i]? = some ⟨some d, .call ⟨.builtin .append, #[x, y], #[t, u]⟩, ty, S, F, g⟩) (hw : on G l g = true) (hn : Nat.blt d n = true)
    (hx : ev l x = some v) (hyv : ev l y = some yv) (ht : P.underlying t = some (.slice e)) (hu : P.underlying u = some du) (hdu : du = .string ∨ ∃ e2, du = .slice e2) (hs : sizeIs P e size) (hby : bytesIs P e bytes) (hz : zeroIs P e zv) (hzs : zv.cells.size = size)
    (hown : Own w B e size v k xs) (hy : News P w size yv m news) (h63 : k + m ≤ maxLen) (hb : (k + m) * bytes ≤ 140737488355328) (hB : B ≤ w.heap.size)
    (h : ∀ v' w', Own w' B e size v' (k + m) (xs ++ news) → Grew w v w' v' → SS w' ∧ WX P ops G Q SS r ((d, v') :: l) n w') :
    WX P ops G Q SS ((i, false) :: r) l n w := by
  obtain ⟨v', w', hr, ho, hg⟩ := run_append (P := P) (ty := ty) ht hu hdu hs hby hz hzs hown hy h63 hb hB
  obtain ⟨h1, h2⟩ := h v' w' ho hg
  refine WX_v hi hw rfl hn (v := v') (w' := w') (fun ρ hf => ?_) h1 h2
  unfold execOp
  simp [resolve, invoke, builtin, hf x _ hx, hf y _ hyv, hr, Result.andThen]
end Go.Proofs.YtpggmnomcahijaaDoor.Kw
