/- What the reference's list tells of the table. -/
import Derived.Test.YtidoilcgdfhfiaaTm9
import Derived.Test.YtidoilcgdfhfiaaWalkOnce
namespace Go.Proofs.Ytidoilcgdfhfiaa.Fn
open Go Go.Proofs Go.RowKit
set_option linter.unusedVariables false
set_option linter.unusedSimpArgs false
/-- The reference's list tells what the table tells. -/
structure Tells (T R : List ((Int × Int) × Int)) : Prop where
  nodup : (R.map (·.1)).Nodup
  sorted : R.Pairwise ltT
  get : ∀ k, Kw.tget R k = Kw.tget T k
theorem Tells.nil : Tells [] [] := ⟨by simp, by simp, fun k => rfl⟩
theorem tget_clear (R : List ((Int × Int) × Int)) (k k' : Int × Int) : Kw.tget (clearL R k) k' = if k = k' then none else Kw.tget R k' := by
  induction R with
  | nil => simp [clearL, Kw.tget]
  | cons p R ih =>
    have e : clearL (p :: R) k = if p.1 = k then clearL R k else p :: clearL R k := by
      unfold clearL
      rw [List.filter_cons]
      by_cases h : p.1 = k <;> simp [h]
    rw [e]
    by_cases h : p.1 = k
    · rw [if_pos h, ih, Kw.tget]
      by_cases h2 : k = k'
      · rw [if_pos h2, if_pos h2]
      · rw [if_neg h2, if_neg h2, if_neg (by rw [h]; exact h2)]
    · rw [if_neg h, Kw.tget, ih, Kw.tget]
      by_cases h2 : k = k'
      · rw [if_pos h2, if_pos h2, if_neg (by rw [← h2]; exact h)]
      · rw [if_neg h2, if_neg h2]
theorem clearL_sub (R : List ((Int × Int) × Int)) (k : Int × Int) : (clearL R k).Sublist R := List.filter_sublist
theorem clearL_ne {R : List ((Int × Int) × Int)} {k : Int × Int} {p : (Int × Int) × Int} (h : p ∈ clearL R k) : p.1 ≠ k := by
  unfold clearL at h
  have := (List.mem_filter.1 h).2
  simpa using this
theorem Tells.clear {T R : List ((Int × Int) × Int)} (h : Tells T R) (hn : (T.map (·.1)).Nodup) (k : Int × Int) : Tells (Kw.tdel T k) (clearL R k) :=
  ⟨h.nodup.sublist ((clearL_sub R k).map _), h.sorted.sublist (clearL_sub R k), fun k' => by rw [tget_clear, Kw.tget_del hn, h.get]⟩
theorem tget_perm {L M : List ((Int × Int) × Int)} (hL : (L.map (·.1)).Nodup) (h : L.Perm M) (k : Int × Int) : Kw.tget L k = Kw.tget M k := by
  have hM : (M.map (·.1)).Nodup := (h.map _).nodup_iff.1 hL
  cases h1 : Kw.tget L k with
  | some v => exact (Kw.mem_tget hM (h.mem_iff.1 (Kw.tget_mem h1))).symm
  | none =>
    have := Kw.tget_not h1
    exact (Kw.tget_none fun p hp => this p (h.mem_iff.2 hp)).symm
theorem insT_perm (C : List ((Int × Int) × Int)) (i : Nat) (x : (Int × Int) × Int) : (insT C i x).Perm (x :: C) := by
  have h := List.perm_middle (a := x) (l₁ := C.take i) (l₂ := C.drop i)
  rw [List.take_append_drop] at h
  exact h
theorem insT_length (C : List ((Int × Int) × Int)) (i : Nat) (x : (Int × Int) × Int) : (insT C i x).length = C.length + 1 := (insT_perm C i x).length_eq
theorem ltT_trans {a b c : (Int × Int) × Int} (h1 : ltT a b) (h2 : ltT b c) : ltT a c := by unfold ltT at *; omega
theorem ltT_tri {a b : (Int × Int) × Int} (h : ¬ ltT a b) (hne : a.1 ≠ b.1) : ltT b a := by
  unfold ltT at *
  have : a.1.1 ≠ b.1.1 ∨ a.1.2 ≠ b.1.2 := by
    by_cases e : a.1.1 = b.1.1
    · exact .inr fun e2 => hne (Prod.ext e e2)
    · exact .inl e
  omega
theorem Tells.set {T R : List ((Int × Int) × Int)} (h : Tells T R) (k : Int × Int) (a : Int) {i : Nat} (hi : i ≤ (clearL R k).length) (hq : ∀ p ∈ (clearL R k).take i, ltT p (k, a)) (hs : ∀ h : i < (clearL R k).length, ¬ ltT ((clearL R k)[i]'h) (k, a)) :
    Tells (Kw.tset T k a) (insT (clearL R k) i (k, a)) := by
  have hC : (clearL R k).Pairwise ltT := h.sorted.sublist (clearL_sub R k)
  have hCn : ((clearL R k).map (·.1)).Nodup := h.nodup.sublist ((clearL_sub R k).map _)
  have hne : ∀ p ∈ clearL R k, p.1 ≠ k := fun p hp => clearL_ne hp
  have hget := tget_clear R k
  generalize clearL R k = C at hC hCn hne hi hq hs hget
  have hxn : (((k, a) :: C).map (·.1)).Nodup := by
    rw [List.map_cons, List.nodup_cons]
    refine ⟨fun hm => ?_, hCn⟩
    obtain ⟨p, hp, hpe⟩ := List.mem_map.1 hm
    exact hne p hp hpe
  have hin : ((insT C i (k, a)).map (·.1)).Nodup := ((insT_perm C i (k, a)).map _).nodup_iff.2 hxn
  have hCs := hC
  rw [← List.take_append_drop i C, List.pairwise_append] at hCs
  refine ⟨hin, ?_, fun k' => ?_⟩
  · unfold insT
    rw [List.pairwise_append, List.pairwise_cons]
    have hbeh : ∀ b ∈ C.drop i, ltT (k, a) b := by
      rcases Nat.lt_or_ge i C.length with hlt | hge
      · rw [List.drop_eq_getElem_cons hlt]
        have h0 : ltT (k, a) (C[i]'hlt) := ltT_tri (hs hlt) (hne _ (List.getElem_mem hlt))
        intro b hb
        rcases List.mem_cons.1 hb with rfl | hb
        · exact h0
        · have hd := hCs.2.1
          rw [List.drop_eq_getElem_cons hlt, List.pairwise_cons] at hd
          exact ltT_trans h0 (hd.1 b hb)
      · rw [List.drop_eq_nil_of_le hge]; intro b hb; cases hb
    refine ⟨hCs.1, ⟨hbeh, hCs.2.1⟩, fun p hp b hb => ?_⟩
    rcases List.mem_cons.1 hb with rfl | hb
    · exact hq p hp
    · exact hCs.2.2 p hp b hb
  · rw [tget_perm hin (insT_perm C i (k, a)), Kw.tget, hget, Kw.tget_set, h.get]
    by_cases e : k = k'
    · rw [if_pos (show ((k, a) : (Int × Int) × Int).1 = k' from e), if_pos e]
    · rw [if_neg (show ¬ ((k, a) : (Int × Int) × Int).1 = k' from e), if_neg e, if_neg e]
theorem tget_app (L M : List ((Int × Int) × Int)) (k : Int × Int) : Kw.tget (L ++ M) k = match Kw.tget L k with | some v => some v | none => Kw.tget M k := by
  induction L with
  | nil => rfl
  | cons p L ih =>
    rw [List.cons_append, Kw.tget, Kw.tget]
    by_cases h : p.1 = k
    · rw [if_pos h, if_pos h]
    · rw [if_neg h, if_neg h, ih]
theorem mem_keys {L : List ((Int × Int) × Int)} {k : Int × Int} : k ∈ L.map (·.1) ↔ ∃ v, Kw.tget L k = some v := by
  constructor
  · intro h
    obtain ⟨p, hp, he⟩ := List.mem_map.1 h
    cases h1 : Kw.tget L k with
    | some v => exact ⟨v, rfl⟩
    | none => exact absurd he (Kw.tget_not h1 p hp)
  · rintro ⟨v, hv⟩
    exact List.mem_map.2 ⟨_, Kw.tget_mem hv, rfl⟩
theorem Tells.due {T R : List ((Int × Int) × Int)} (h : Tells T R) (hn : (T.map (·.1)).Nodup) {now : Int} {ks : List (Int × Int)} (hd : IsDue T now ks) {i : Nat} (hi : i ≤ R.length) (hq : ∀ p ∈ R.take i, p.2 ≤ now) (hs : ∀ h : i < R.length, ¬ (R[i]'h).2 ≤ now) :
    ks = (R.take i).map (·.1) ∧ Tells (dropK T ks) (R.drop i) := by
  have hsp := List.take_append_drop i R
  have hR := h.sorted
  have hRn := h.nodup
  rw [← hsp, List.pairwise_append] at hR
  rw [← hsp, List.map_append, List.nodup_append] at hRn
  have hlook : ∀ p ∈ R, look T p.1 = p.2 := fun p hp => by
    unfold look
    rw [← h.get, Kw.mem_tget h.nodup hp]; rfl
  have hin : ∀ p ∈ R.take i, p ∈ R := fun p hp => List.mem_of_mem_take hp
  have hlate : ∀ p ∈ R.drop i, ¬ p.2 ≤ now := by
    rcases Nat.lt_or_ge i R.length with hlt | hge
    · rw [List.drop_eq_getElem_cons hlt]
      intro b hb
      rcases List.mem_cons.1 hb with rfl | hb
      · exact hs hlt
      · have hd2 := hR.2.1
        rw [List.drop_eq_getElem_cons hlt, List.pairwise_cons] at hd2
        have h1 := hd2.1 b hb
        have h2 := hs hlt
        unfold ltT at h1
        omega
    · rw [List.drop_eq_nil_of_le hge]; intro b hb; cases hb
  have hmem : ∀ k, k ∈ (R.take i).map (·.1) ↔ ∃ a, Kw.tget T k = some a ∧ a ≤ now := fun k => by
    constructor
    · intro hk
      obtain ⟨p, hp, rfl⟩ := List.mem_map.1 hk
      exact ⟨p.2, by rw [← h.get]; exact Kw.mem_tget h.nodup (hin p hp), hq p hp⟩
    · rintro ⟨a, ha, hle⟩
      rw [← h.get] at ha
      have hm := Kw.tget_mem ha
      rw [← hsp, List.mem_append] at hm
      rcases hm with hm | hm
      · exact List.mem_map.2 ⟨_, hm, rfl⟩
      · exact absurd hle (hlate _ hm)
  have hdue : IsDue T now ((R.take i).map (·.1)) := by
    refine ⟨(List.perm_ext_iff_of_nodup hRn.1 ((hn.sublist (List.Sublist.map _ List.filter_sublist)) : (dueK now T).Nodup)).2 fun k => ?_, ?_⟩
    · rw [hmem, dueK_mem]
      constructor
      · rintro ⟨a, ha, hle⟩; exact ⟨(k, a), Kw.tget_mem ha, hle, rfl⟩
      · rintro ⟨p, hp, hle, rfl⟩; exact ⟨p.2, Kw.mem_tget hn hp, hle⟩
    · rw [List.pairwise_map]
      refine (List.Pairwise.and_mem.1 hR.1).imp ?_
      rintro a b ⟨ha, hb, hab⟩ hlt
      unfold ltK at hlt
      rw [hlook a (hin a ha), hlook b (hin b hb)] at hlt
      unfold ltT at hab
      omega
  have hks := hd.uniq hdue
  refine ⟨hks, by rw [List.map_drop]; exact h.nodup.sublist (List.drop_sublist _ _), hR.2.1, fun k => ?_⟩
  rw [hks, tget_drop _ _ hn, ← h.get]
  by_cases hk : k ∈ (R.take i).map (·.1)
  · rw [if_pos hk]
    refine Kw.tget_none fun p hp hpe => ?_
    exact hRn.2.2 k hk k (List.mem_map.2 ⟨p, hp, hpe⟩) rfl
  · rw [if_neg hk]
    conv => rhs; rw [← hsp, tget_app]
    cases h1 : Kw.tget (R.take i) k with
    | none => rfl
    | some v => exact absurd (mem_keys.2 ⟨v, h1⟩) hk

end Go.Proofs.Ytidoilcgdfhfiaa.Fn
