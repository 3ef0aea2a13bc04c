/- The law of DiskFails in plain words. -/
import Derived.Test.YtcmgeadakncgmaaDm5
namespace Go.Proofs.Ytcmgeadakncgmaa.Fn
open Go Go.Proofs Go.RowKit
set_option linter.unusedVariables false
set_option linter.unusedSimpArgs false
theorem gone_one {Q : List (Int × Nat)} (h : ∀ p ∈ Q, p.1 = 1) {keep : Int} (hk : 0 ≤ keep) : ∀ i, i ≤ Q.length → (goneSt (Q.take i) keep).1 = keep - min keep (looseAll (Q.take i)) ∧ lookI (goneSt (Q.take i) keep).2 1 = looseAll (Q.take i) - min keep (looseAll (Q.take i))
  | 0, _ => ⟨by show keep = keep - min keep 0; omega, by show (0 : Int) = 0 - min keep 0; omega⟩
  | i + 1, hi => by
    obtain ⟨h1, h2⟩ := gone_one h hk i (by omega)
    have hp := h _ (List.getElem_mem (show i < Q.length from hi))
    rw [take_snocQ hi, goneSt_snoc, looseAll_app, looseAll_one]
    generalize Q[i] = p at *
    unfold stepG
    dsimp only
    rw [lookI_set, if_pos hp, hp, h1, h2]
    constructor <;> omega
theorem looseOf_one' {Q : List (Int × Nat)} (h : ∀ p ∈ Q, p.1 = 1) {n : Int} (hn : n ≠ 1) : looseOf Q n = 0 := by
  induction Q with
  | nil => rfl
  | cons p Q ih =>
    rw [looseOf, if_neg (by rw [h p (by simp)]; exact fun e => hn e.symm), ih fun q hq => h q (by simp [hq])]
/-- What holds behind so many changes. -/
structure Fa (i : Nat) (s : ByteArray) (sure : Nat) (Q : List (Int × Nat)) : Prop where
  one : ∀ p ∈ Q, p.1 = 1
  lenQ : Q.length ≤ i
  len : s.size ≤ 3 + 2 * i
  three : 3 ≤ s.size
  eq : s.size = sure + looseAll Q
def faD (s : ByteArray) (Q : List (Int × Nat)) (left keep : Int) : Dk := ⟨[(1, s.data.toList)], Q, 3000, false, 0, true, left, keep⟩
theorem Fa.start : Fa 0 ⟨#[97, 98, 99]⟩ 3 [] := ⟨fun p hp => absurd hp (by simp), Nat.le_refl _, by decide, by decide, by decide⟩
theorem Fa.wf {i : Nat} {s : ByteArray} {sure : Nat} {Q : List (Int × Nat)} (h : Fa i s sure Q) (hi : i ≤ 1000) (left : Int) {keep : Int} (hk : okI keep) : WF (faD s Q left keep) where
  okQ := fun p hp => by rw [h.one p hp]; unfold okI; omega
  lenQ := by have := h.lenQ; show Q.length ≤ _; omega
  allQ := by have h1 := h.len; have h2 := h.eq; show looseAll Q ≤ _; omega
  fits := fun n => by
    show looseOf Q n ≤ ((Kw.tget [((1 : Int), s.data.toList)] n).getD []).length
    by_cases e : n = 1
    · subst e
      have h1 := looseOf_le Q 1; have h2 := h.eq
      show _ ≤ s.data.toList.length
      rw [size_list]; omega
    · rw [looseOf_one' h.one e]; omega
  keep := hk
  lenF := by have h1 := h.len; show s.data.toList.length + 0 ≤ _; rw [size_list]; omega
theorem Fa.append {i : Nat} {s : ByteArray} {sure : Nat} {Q : List (Int × Nat)} (h : Fa i s sure Q) (t : ByteArray) (ht : t.size ≤ 2) : Fa (i + 1) (s ++ t) sure (Q ++ [(1, t.size)]) where
  one := fun p hp => by
    rcases List.mem_append.1 hp with hp | hp
    · exact h.one p hp
    · rw [List.mem_singleton.1 hp]
  lenQ := by have := h.lenQ; rw [List.length_append]; simp; omega
  len := by have := h.len; rw [ByteArray.size_append]; omega
  three := by have := h.three; rw [ByteArray.size_append]; omega
  eq := by have := h.eq; rw [ByteArray.size_append, looseAll_app, looseAll_one]; omega
theorem Fa.sync {i : Nat} {s : ByteArray} {sure : Nat} {Q : List (Int × Nat)} (h : Fa i s sure Q) : Fa (i + 1) s s.size [] :=
  ⟨fun p hp => absurd hp (by simp), Nat.zero_le _, by have := h.len; omega, h.three, by simp [looseAll]⟩
theorem fa_put (s t : ByteArray) (Q : List (Int × Nat)) (left keep : Int) : putD (faD s Q left keep) 1 s.data.toList t.data.toList = faD (s ++ t) (Q ++ [(1, t.size)]) left keep := by
  unfold putD faD
  simp [Kw.tset]
theorem fa_append (s t : ByteArray) (Q : List (Int × Nat)) {left left' : Int} (keep : Int) (h : ¬ left - 1 < 0) (hl : left' = left - 1) : appendD (faD s Q left keep) 1 s.data.toList t.data.toList = (0, faD (s ++ t) (Q ++ [(1, t.size)]) left' keep) := by
  subst hl
  unfold appendD orSink
  rw [fa_put]
  simp [tickB, tickD, faD, h]
theorem fa_append_sunk (s t : ByteArray) (Q : List (Int × Nat)) (keep : Int) : appendD (faD s Q 0 keep) 1 s.data.toList t.data.toList = (61, sinkD (tickD (faD (s ++ t) (Q ++ [(1, t.size)]) 0 keep))) := by
  unfold appendD orSink
  rw [fa_put]
  simp [tickB, faD]
theorem fa_sync (s : ByteArray) (Q : List (Int × Nat)) {left left' : Int} (keep : Int) (h : ¬ left - 1 < 0) (hl : left' = left - 1) : syncD (faD s Q left keep) = (0, faD s [] left' keep) := by
  subst hl
  simp [syncD, orSink, tickB, tickD, faD, h]
theorem fa_sync_sunk (s : ByteArray) (Q : List (Int × Nat)) (keep : Int) : syncD (faD s Q 0 keep) = (61, sinkD (tickD (faD s Q 0 keep))) := by simp [syncD, orSink, tickB, faD]
theorem fa_create_sunk (s : ByteArray) (Q : List (Int × Nat)) (keep : Int) : createD (faD s Q 0 keep) 2 = (61, sinkD (tickD (faD s Q 0 keep))) := by simp [createD, orSink, tickB, faD]
def faS (s : ByteArray) (m : Nat) (keep : Int) : Dk := ⟨[(1, s.data.toList.take m)], [], 3000, true, 0, false, -1, keep⟩
theorem Fa.sink {i : Nat} {s : ByteArray} {sure : Nat} {Q : List (Int × Nat)} (h : Fa i s sure Q) {keep : Int} (hk : 0 ≤ keep) {mm : Nat} (hm : min keep ((s.size : Int) - sure) = (mm : Int)) : sinkD (tickD (faD s Q 0 keep)) = faS s (sure + mm) keep := by
  have hg := (gone_one h.one hk Q.length (Nat.le_refl _)).2
  rw [List.take_length] at hg
  have he := h.eq
  have hl : lookI (goneOf Q keep) 1 = (looseAll Q : Int) - mm := by
    show lookI (goneSt Q keep).2 1 = _
    rw [hg]; omega
  have ht : cutL s.data.toList (lookI (goneOf Q keep) 1) = s.data.toList.take (sure + mm) := by
    unfold cutL
    rw [hl, size_list]
    congr 1; omega
  unfold sinkD crashD tickD faD faS
  simp only [if_true, cutF, List.map_cons, List.map_nil]
  rw [ht]
  rfl
theorem faS.wf (s : ByteArray) (m : Nat) {keep : Int} (hk : okI keep) (hs : s.size ≤ 1000) : WF (startD (faS s m keep)) :=
  WF.nil rfl hk (by show (s.data.toList.take m).length + 0 ≤ _; rw [List.length_take, size_list]; omega)

end Go.Proofs.Ytcmgeadakncgmaa.Fn
