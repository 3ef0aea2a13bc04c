/- What is done with a disk, in plain words. -/
import Derived.Test.YtcmgeadakncgmaaDk
namespace Go.Proofs.Ytcmgeadakncgmaa.Fn
open Go Go.Proofs Go.RowKit
set_option linter.unusedVariables false
set_option linter.unusedSimpArgs false
/-! ### What is done with a disk -/
def lookI (G : List (Int × Int)) (n : Int) : Int := (Kw.tget G n).getD 0
theorem lookI_set (G : List (Int × Int)) (a n v : Int) : lookI (Kw.tset G a v) n = if a = n then v else lookI G n := by
  unfold lookI; rw [Kw.tget_set]; split <;> rfl
theorem lookI_eq (G : List (Int × Int)) (n : Int) : (match Kw.tget G n with | some u => iV u | none => .int .i64 0) = .int .i64 (lookI G n) := by
  unfold lookI; cases Kw.tget G n <;> rfl
theorem lookI_snoc {V : List (Int × Int)} {p : Int × Int} (h : ∀ q ∈ V, q.1 ≠ p.1) (n : Int) : lookI (V ++ [p]) n = if p.1 = n then p.2 else lookI V n := by
  unfold lookI
  rw [tget_snoc]
  by_cases e : p.1 = n
  · have : Kw.tget V n = none := Kw.tget_none fun q hq => by rw [← e]; exact h q hq
    rw [this]; simp [e]
  · rw [if_neg e]
    cases Kw.tget V n <;> simp [e]
theorem lookI_none {V : List (Int × Int)} {n : Int} (h : ∀ q ∈ V, q.1 ≠ n) : lookI V n = 0 := by
  unfold lookI; rw [Kw.tget_none h]; rfl
/-- How many loose bytes a file has; all of them. -/
def looseOf : List (Int × Nat) → Int → Nat
  | [], _ => 0
  | p :: Q, n => (if p.1 = n then p.2 else 0) + looseOf Q n
def looseAll : List (Int × Nat) → Nat
  | [] => 0
  | p :: Q => p.2 + looseAll Q
theorem looseOf_app (Q R : List (Int × Nat)) (n : Int) : looseOf (Q ++ R) n = looseOf Q n + looseOf R n := by
  induction Q with
  | nil => simp [looseOf]
  | cons p Q ih => rw [List.cons_append, looseOf, looseOf, ih]; omega
theorem looseAll_app (Q R : List (Int × Nat)) : looseAll (Q ++ R) = looseAll Q + looseAll R := by
  induction Q with
  | nil => simp [looseAll]
  | cons p Q ih => rw [List.cons_append, looseAll, looseAll, ih]; omega
theorem looseOf_le (Q : List (Int × Nat)) (n : Int) : looseOf Q n ≤ looseAll Q := by
  induction Q with
  | nil => simp [looseOf]
  | cons p Q ih => rw [looseOf, looseAll]; split <;> omega
theorem looseOf_one (p : Int × Nat) (n : Int) : looseOf [p] n = if p.1 = n then p.2 else 0 := by simp [looseOf]
theorem looseAll_one (p : Int × Nat) : looseAll [p] = p.2 := by simp [looseAll]
theorem take_snocQ {Q : List (Int × Nat)} {i : Nat} (h : i < Q.length) : Q.take (i + 1) = Q.take i ++ [Q[i]'h] := List.take_succ_eq_append_getElem h
theorem looseAll_take (Q : List (Int × Nat)) (i : Nat) : looseAll (Q.take i) ≤ looseAll Q := by
  have := looseAll_app (Q.take i) (Q.drop i)
  rw [List.take_append_drop] at this; omega
theorem looseAll_get {Q : List (Int × Nat)} {i : Nat} (h : i < Q.length) : looseAll (Q.take i) + (Q[i]'h).2 ≤ looseAll Q := by
  have := looseAll_take Q (i + 1)
  rw [take_snocQ h, looseAll_app, looseAll_one] at this
  exact this
def stepG (st : Int × List (Int × Int)) (p : Int × Nat) : Int × List (Int × Int) :=
  (st.1 - min (max st.1 0) (p.2 : Int), Kw.tset st.2 p.1 (lookI st.2 p.1 + ((p.2 : Int) - min (max st.1 0) (p.2 : Int))))
def goneSt (Q : List (Int × Nat)) (keep : Int) : Int × List (Int × Int) := Q.foldl stepG (keep, [])
def goneOf (Q : List (Int × Nat)) (keep : Int) : List (Int × Int) := (goneSt Q keep).2
theorem goneSt_snoc (Q : List (Int × Nat)) (p : Int × Nat) (keep : Int) : goneSt (Q ++ [p]) keep = stepG (goneSt Q keep) p := by unfold goneSt; rw [List.foldl_append]; rfl
theorem gone_bnd (Q : List (Int × Nat)) (keep : Int) : ∀ i, i ≤ Q.length → (min keep 0 ≤ (goneSt (Q.take i) keep).1 ∧ (goneSt (Q.take i) keep).1 ≤ keep) ∧ ∀ n, 0 ≤ lookI (goneSt (Q.take i) keep).2 n ∧ lookI (goneSt (Q.take i) keep).2 n ≤ looseOf (Q.take i) n
  | 0, _ => ⟨⟨by show min keep 0 ≤ keep; omega, Int.le_refl _⟩, fun n => ⟨by show (0 : Int) ≤ 0; omega, by show (0 : Int) ≤ _; omega⟩⟩
  | i + 1, h => by
    obtain ⟨⟨h1, h2⟩, h3⟩ := gone_bnd Q keep i (by omega)
    rw [take_snocQ h, goneSt_snoc]
    generalize Q[i] = p at *
    unfold stepG
    refine ⟨by dsimp only; omega, fun n => ?_⟩
    dsimp only
    rw [lookI_set, looseOf_app, looseOf_one]
    have := h3 n
    by_cases e : p.1 = n
    · rw [if_pos e, if_pos e, e]; omega
    · rw [if_neg e, if_neg e]; omega
theorem goneOf_bnd (Q : List (Int × Nat)) (keep : Int) (n : Int) : 0 ≤ lookI (goneOf Q keep) n ∧ lookI (goneOf Q keep) n ≤ looseOf Q n := by
  have := (gone_bnd Q keep Q.length (Nat.le_refl _)).2 n
  rw [List.take_length] at this
  exact this
def cutL (s : List UInt8) (m : Int) : List UInt8 := s.take (s.length - m.toNat)
theorem cutL_zero (s : List UInt8) : cutL s 0 = s := by unfold cutL; simp
def cutF (F : List (Int × List UInt8)) (G : List (Int × Int)) : List (Int × List UInt8) := F.map fun f => (f.1, cutL f.2 (lookI G f.1))
theorem cutF_fst (F : List (Int × List UInt8)) (G : List (Int × Int)) : (cutF F G).map (·.1) = F.map (·.1) := by simp [cutF, List.map_map, Function.comp_def]
theorem tget_cutF (F : List (Int × List UInt8)) (G : List (Int × Int)) (n : Int) : Kw.tget (cutF F G) n = (Kw.tget F n).map fun s => cutL s (lookI G n) := tget_map2 (f := fun n s => cutL s (lookI G n)) F n
theorem cutF_congr (F : List (Int × List UInt8)) {G H : List (Int × Int)} (h : ∀ n, lookI G n = lookI H n) : cutF F G = cutF F H := by unfold cutF; simp [h]
theorem cutF_nil (F : List (Int × List UInt8)) : cutF F [] = F := by
  unfold cutF
  have : (fun f : Int × List UInt8 => (f.1, cutL f.2 (lookI [] f.1))) = id := by funext f; show (f.1, cutL f.2 0) = f; rw [cutL_zero]
  rw [this, List.map_id]
def cutV : Value → Nat → Value
  | .slice a _ c, m => .slice a m c
  | v, _ => v
/-- One more of the files is cut. -/
theorem cut_step {E E' : List File} {V : List (Int × Int)} {p : Int × Int} (hn : (E.map (·.1)).Nodup) (he : fD E' = cutF (fD E) V) (hV : ∀ q ∈ V, q.1 ≠ p.1) {v : Value} {s : List UInt8} (hg : Kw.tget E' p.1 = some (v, s)) :
    Kw.tget (fD E) p.1 = some s ∧ fD (Kw.tset E' p.1 (cutV v (s.length - p.2.toNat), cutL s p.2)) = cutF (fD E) (V ++ [p]) := by
  have hk : E'.map (·.1) = E.map (·.1) := by rw [← fD_fst, he, cutF_fst, fD_fst]
  have h0 : Kw.tget (fD E) p.1 = some s := by
    have h1 : Kw.tget (fD E') p.1 = some s := by rw [tget_fD, hg]; rfl
    rw [he, tget_cutF, lookI_none hV] at h1
    cases h2 : Kw.tget (fD E) p.1 with
    | none => rw [h2] at h1; cases h1
    | some t => rw [h2] at h1; simp only [Option.map_some, cutL_zero] at h1; exact h1
  refine ⟨h0, tget_ext ?_ ?_ fun k => ?_⟩
  · rw [fD_fst, tset_fst _ hg, cutF_fst, fD_fst, hk]
  · rw [fD_fst, tset_fst _ hg, hk]; exact hn
  · rw [← tset_fD, Kw.tget_set, tget_cutF, lookI_snoc hV, he, tget_cutF]
    by_cases e : p.1 = k
    · rw [if_pos e, if_pos e, ← e, h0]; rfl
    · rw [if_neg e, if_neg e]
theorem cut_zero {F F' : List (Int × List UInt8)} {V : List (Int × Int)} {p : Int × Int} (he : F' = cutF F V) (hV : ∀ q ∈ V, q.1 ≠ p.1) (h0 : p.2 = 0) : F' = cutF F (V ++ [p]) := by
  rw [he]
  refine cutF_congr F fun n => ?_
  rw [lookI_snoc hV]
  by_cases e : p.1 = n
  · rw [if_pos e, h0, ← e, lookI_none hV]
  · rw [if_neg e]
def crashD (d : Dk) (keep : Int) : Dk := { d with F := cutF d.F (goneOf d.Q keep), Q := [], down := true, fails := false }
def tickB (d : Dk) : Bool := d.fails && decide (d.left - 1 < 0)
def tickD (d : Dk) : Dk := if d.fails then { d with left := d.left - 1 } else d
def sinkD (d : Dk) : Dk := crashD d d.keep
/-- A change that fails takes the disk down. -/
def orSink (d : Dk) (done : Dk) : Int × Dk := if tickB d then (61, sinkD (tickD d)) else (0, done)
def createD (d : Dk) (n : Int) : Int × Dk := orSink d { tickD d with F := d.F ++ [(n, [])] }
def putD (d : Dk) (n : Int) (s0 s : List UInt8) : Dk := { d with F := Kw.tset d.F n (s0 ++ s), Q := d.Q ++ [(n, s.length)] }
def appendD (d : Dk) (n : Int) (s0 s : List UInt8) : Int × Dk := orSink (putD d n s0 s) (tickD (putD d n s0 s))
def syncD (d : Dk) : Int × Dk := orSink d { tickD d with Q := [] }
def startD (d : Dk) : Dk := { d with down := false, starts := d.starts + 1 }
def failD (d : Dk) (n keep : Int) : Dk := { d with fails := true, left := n, keep := keep }
def filesLen : List (Int × List UInt8) → Nat
  | [] => 0
  | f :: F => f.2.length + filesLen F
theorem filesLen_app (F G : List (Int × List UInt8)) : filesLen (F ++ G) = filesLen F + filesLen G := by
  induction F with
  | nil => simp [filesLen]
  | cons f F ih => rw [List.cons_append, filesLen, filesLen, ih]; omega
def freeD (d : Dk) : Int := d.cap - (filesLen d.F : Int)
/-- What is asked of a disk: its numbers are small, and no file has more loose bytes than bytes. -/
structure WF (d : Dk) : Prop where
  okQ : ∀ p ∈ d.Q, okI p.1
  lenQ : d.Q.length ≤ 1000000
  allQ : looseAll d.Q ≤ 1000000000
  fits : ∀ n, looseOf d.Q n ≤ ((Kw.tget d.F n).getD []).length
  keep : okI d.keep
  lenF : filesLen d.F ≤ 1000000000
theorem filesLen_get {F : List (Int × List UInt8)} {n : Int} {s : List UInt8} (h : Kw.tget F n = some s) : s.length ≤ filesLen F := by
  induction F with
  | nil => cases h
  | cons f F ih =>
    rw [Kw.tget] at h
    rw [filesLen]
    split at h
    · cases h; omega
    · have := ih h; omega
theorem filesLen_set {F : List (Int × List UInt8)} {n : Int} {s t : List UInt8} (h : Kw.tget F n = some s) : filesLen (Kw.tset F n t) + s.length = filesLen F + t.length := by
  induction F with
  | nil => cases h
  | cons f F ih =>
    rw [Kw.tget] at h
    rw [Kw.tset, filesLen]
    split at h
    · rename_i e
      cases h
      rw [if_pos e, filesLen]; show t.length + filesLen F + _ = _; omega
    · rename_i e
      rw [if_neg e, filesLen]; have := ih h; omega
theorem looseOf_pos {d : Dk} (h : WF d) {n : Int} {m : Int} (hm : 0 < m) (hle : m ≤ looseOf d.Q n) : ∃ s, Kw.tget d.F n = some s ∧ m ≤ s.length := by
  have := h.fits n
  cases h2 : Kw.tget d.F n with
  | none => rw [h2] at this; simp at this; omega
  | some s => rw [h2] at this; exact ⟨s, rfl, by simp at this; omega⟩
theorem cutV_own {w : World} {B n m : Nat} {v : Value} {xs : List Value} (h : Kw.Own w B 5 1 v n xs) (hm : m ≤ n) : Kw.Own w B 5 1 (cutV v m) m (xs.take m) := by
  have hx := h.1
  rcases h.2 with ⟨rfl, rfl⟩ | ⟨g, cap, cur, rfl, h1, h2, h3, h4, h5, h6⟩
  · obtain rfl : m = 0 := by omega
    exact ⟨by simp, .inl ⟨rfl, rfl⟩⟩
  · refine ⟨by rw [List.length_take]; omega, .inr ⟨g, cap, cur, rfl, h1, h2, by omega, h4, h5, ?_⟩⟩
    rw [← h6, List.take_take]; congr 1; omega
theorem cutV_ob (v : Value) (m : Nat) : Kw.ob (cutV v m) = Kw.ob v := by
  cases v <;> try rfl
  rename_i a _ _; cases a <;> rfl

theorem WF.tick {d : Dk} (h : WF d) : WF (tickD d) := by
  unfold tickD; split
  · exact ⟨h.okQ, h.lenQ, h.allQ, h.fits, h.keep, h.lenF⟩
  · exact h
theorem WF.put {d : Dk} (h : WF d) {n : Int} {s0 s : List UInt8} (hg : Kw.tget d.F n = some s0) (hn : okI n) (hq : d.Q.length < 1000000) (ha : looseAll d.Q + s.length ≤ 1000000000) (hl : filesLen d.F + s.length ≤ 1000000000) : WF (putD d n s0 s) where
  okQ := fun p hp => by
    rcases List.mem_append.1 hp with hp | hp
    · exact h.okQ p hp
    · rw [List.mem_singleton.1 hp]; exact hn
  lenQ := by unfold putD; simp only [List.length_append, List.length_singleton]; omega
  allQ := by unfold putD; dsimp only; rw [looseAll_app, looseAll_one]; exact ha
  fits := fun k => by
    unfold putD; dsimp only
    rw [looseOf_app, looseOf_one, Kw.tget_set]
    have := h.fits k
    by_cases e : n = k
    · subst e
      rw [hg] at this
      rw [if_pos rfl, if_pos rfl]; simp only [Option.getD_some, List.length_append] at this ⊢; omega
    · rw [if_neg e, if_neg e]; exact this
  keep := h.keep
  lenF := by unfold putD; dsimp only; have := filesLen_set (t := s0 ++ s) hg; rw [List.length_append] at this; omega
theorem WF.nil {d : Dk} (hQ : d.Q = []) (hk : okI d.keep) (hF : filesLen d.F ≤ 1000000000) : WF d := by
  refine ⟨fun p hp => ?_, by rw [hQ]; simp, by rw [hQ]; simp [looseAll], fun n => by rw [hQ]; simp [looseOf], hk, hF⟩
  rw [hQ] at hp; cases hp
theorem WF.sync {d : Dk} (h : WF d) : WF { tickD d with Q := [] } := by
  have hF : (tickD d).F = d.F := by unfold tickD; split <;> rfl
  have hk : (tickD d).keep = d.keep := by unfold tickD; split <;> rfl
  exact WF.nil rfl (by show okI (tickD d).keep; rw [hk]; exact h.keep) (by show filesLen (tickD d).F ≤ _; rw [hF]; exact h.lenF)
theorem WF.create {d : Dk} (h : WF d) {n : Int} (hn : Kw.tget d.F n = none) : WF { tickD d with F := d.F ++ [(n, [])] } := by
  have hQ : (tickD d).Q = d.Q := by unfold tickD; split <;> rfl
  have hk : (tickD d).keep = d.keep := by unfold tickD; split <;> rfl
  refine ⟨by rw [show ({ tickD d with F := d.F ++ [(n, [])] } : Dk).Q = d.Q from hQ]; exact h.okQ, by rw [show ({ tickD d with F := d.F ++ [(n, [])] } : Dk).Q = d.Q from hQ]; exact h.lenQ, by rw [show ({ tickD d with F := d.F ++ [(n, [])] } : Dk).Q = d.Q from hQ]; exact h.allQ, fun k => ?_, by show okI (tickD d).keep; rw [hk]; exact h.keep, by show filesLen (d.F ++ [(n, [])]) ≤ _; rw [filesLen_app]; simp [filesLen]; exact h.lenF⟩
  rw [show ({ tickD d with F := d.F ++ [(n, [])] } : Dk).Q = d.Q from hQ]
  show looseOf d.Q k ≤ ((Kw.tget (d.F ++ [(n, [])]) k).getD []).length
  rw [tget_snoc]
  have := h.fits k
  cases h1 : Kw.tget d.F k with
  | some s => rw [h1] at this; exact this
  | none => rw [h1] at this; simp at this; omega
theorem filesLen_cut (F : List (Int × List UInt8)) (G : List (Int × Int)) : filesLen (cutF F G) ≤ filesLen F := by
  induction F with
  | nil => simp [cutF, filesLen]
  | cons f F ih =>
    have e : cutF (f :: F) G = (f.1, cutL f.2 (lookI G f.1)) :: cutF F G := rfl
    rw [e, filesLen, filesLen]
    have : (cutL f.2 (lookI G f.1)).length ≤ f.2.length := by unfold cutL; rw [List.length_take]; omega
    dsimp only; omega
theorem WF.crash {d : Dk} (h : WF d) (keep : Int) : WF (crashD d keep) :=
  WF.nil rfl h.keep (Nat.le_trans (filesLen_cut _ _) h.lenF)
theorem WF.start {d : Dk} (h : WF d) : WF (startD d) := ⟨h.okQ, h.lenQ, h.allQ, h.fits, h.keep, h.lenF⟩
theorem WF.fail {d : Dk} (h : WF d) (n keep : Int) (hk : okI keep) : WF (failD d n keep) := ⟨h.okQ, h.lenQ, h.allQ, h.fits, hk, h.lenF⟩
/-- How long a slice is. -/
def lenV : Value → Nat
  | .slice _ n _ => n
  | _ => 0
def sumV : List (Int × Value) → Nat
  | [] => 0
  | p :: V => lenV p.2 + sumV V
theorem sumV_app (V W : List (Int × Value)) : sumV (V ++ W) = sumV V + sumV W := by
  induction V with
  | nil => simp [sumV]
  | cons p V ih => rw [List.cons_append, sumV, sumV, ih]; omega
theorem sumV_perm {V W : List (Int × Value)} (h : V.Perm W) : sumV V = sumV W := by
  induction h with
  | nil => rfl
  | cons p _ ih => rw [sumV, sumV, ih]
  | swap p q l => rw [sumV, sumV, sumV, sumV]; omega
  | trans _ _ h1 h2 => exact h1.trans h2
theorem Files.len {w : World} {B : Nat} {q : Nat → Prop} {E : List File} (h : Files w B q E) {e : File} (he : e ∈ E) : ∃ a cap, e.2.1 = .slice a e.2.2.length cap := (h.1 e he).1.shape
theorem Files.sum {w : World} {B : Nat} {q : Nat → Prop} : ∀ {E : List File}, Files w B q E → sumV (fT E) = filesLen (fD E)
  | [], _ => rfl
  | e :: E, h => by
    have e1 : fT (e :: E) = (e.1, e.2.1) :: fT E := rfl
    have e2 : fD (e :: E) = (e.1, e.2.2) :: fD E := rfl
    rw [e1, e2, sumV, filesLen]
    obtain ⟨a, cap, hv⟩ := h.len (e := e) (by simp)
    have hr : Files w B q E := ⟨fun x hx => h.1 x (by simp [hx]), fun x hx y hy => h.2 x (by simp [hx]) y (by simp [hy])⟩
    rw [Files.sum hr]
    dsimp only
    rw [hv]; rfl
theorem sumV_sub {V W : List (Int × Value)} (hn : V.Nodup) (hs : ∀ p ∈ V, p ∈ W) : sumV V ≤ sumV W := by
  induction V generalizing W with
  | nil => simp [sumV]
  | cons p V ih =>
    rw [List.nodup_cons] at hn
    have hp := hs p (by simp)
    obtain ⟨W1, W2, rfl⟩ := List.append_of_mem hp
    rw [sumV, sumV_app, sumV]
    have := ih (W := W1 ++ W2) hn.2 (fun q hq => by
      have h1 := hs q (by simp [hq])
      rcases List.mem_append.1 h1 with h1 | h1
      · simp [h1]
      · rcases List.mem_cons.1 h1 with rfl | h1
        · exact absurd hq hn.1
        · simp [h1])
    rw [sumV_app] at this
    omega

end Go.Proofs.Ytcmgeadakncgmaa.Fn
