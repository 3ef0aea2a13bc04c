/- The law of DiskOrder in plain words. -/
import Derived.Test.YtcmgeadakncgmaaDm5
namespace Go.Proofs.Ytcmgeadakncgmaa.Fn
open Go Go.Proofs Go.RowKit
set_option linter.unusedVariables false
set_option linter.unusedSimpArgs false
abbrev Scrap := Nat × ByteArray
def RdS (w : World) (a : Option Addr) (L : List Scrap) : Prop := L = [] ∨ ∃ g o, a = some ⟨g, o, none⟩ ∧ ∀ (i : Nat) (h : i < L.length), g < w.heap.size ∧ (L[i]'h).1 ≤ 255 ∧ w.cell? ⟨g, o + i * 2, none⟩ = some (.int .u8 ((L[i]'h).1 : Int)) ∧ w.cell? ⟨g, o + i * 2 + 1, none⟩ = some (.string (L[i]'h).2)
def wantA (Ws : List ByteArray) : Array Value := (Ws.map Value.string).toArray
theorem wantA_size (Ws : List ByteArray) : (wantA Ws).size = Ws.length := by simp [wantA]
theorem wantA_at (Ws : List ByteArray) (k : Nat) (h : k < Ws.length) : (wantA Ws)[k]? = some (.string (Ws.getD k ⟨#[]⟩)) := by
  rw [List.getD_eq_getElem?_getD, List.getElem?_eq_getElem h]; simp [wantA, h]
theorem wantA_set (Ws : List ByteArray) (k : Nat) (u : ByteArray) : (wantA Ws).setIfInBounds k (.string u) = wantA (Ws.set k u) := by
  unfold wantA
  apply Array.toList_inj.1
  simp [List.map_set]
def wk (Ws : List ByteArray) (k : Nat) : List UInt8 := (Ws.getD k ⟨#[]⟩).data.toList
theorem wk_set (Ws : List ByteArray) (k : Nat) (u : ByteArray) (h : k < Ws.length) (j : Nat) : wk (Ws.set k u) j = if j = k then u.data.toList else wk Ws j := by
  unfold wk
  rw [List.getD_eq_getElem?_getD, List.getElem?_set]
  by_cases e : k = j
  · subst e; rw [if_pos rfl, if_pos rfl, if_pos h]; rfl
  · rw [if_neg e, if_neg (fun h => e h.symm), List.getD_eq_getElem?_getD]
theorem getD_set (Ws : List ByteArray) (k : Nat) (u : ByteArray) (j : Nat) : (Ws.set k u).getD j ⟨#[]⟩ = if k = j ∧ k < Ws.length then u else Ws.getD j ⟨#[]⟩ := by
  rw [List.getD_eq_getElem?_getD, List.getElem?_set, List.getD_eq_getElem?_getD]
  by_cases e : k = j
  · subst e
    by_cases h : k < Ws.length
    · simp [h]
    · simp [h]
  · simp [e]
def mkF (n : Nat) : List (Int × List UInt8) := (List.range n).map fun (i : Nat) => ((i : Int), [])
theorem mkF_succ (n : Nat) : mkF (n + 1) = mkF n ++ [((n : Int), [])] := by unfold mkF; rw [List.range_succ]; simp
theorem mkF_none (n : Nat) : Kw.tget (mkF n) (n : Int) = none := Kw.tget_none fun p hp => by
  unfold mkF at hp
  obtain ⟨i, hi, rfl⟩ := List.mem_map.1 hp
  have := List.mem_range.1 hi
  dsimp only; omega
theorem mkF_length (n : Nat) : (mkF n).length = n := by simp [mkF]
theorem mkF_files (n : Nat) : filesLen (mkF n) = 0 := by
  induction n with
  | zero => rfl
  | succ n ih => rw [mkF_succ, filesLen_app, ih]; rfl
theorem tickB_no {d : Dk} (h : d.fails = false) : tickB d = false := by simp [tickB, h]
theorem tickD_no {d : Dk} (h : d.fails = false) : tickD d = d := by simp [tickD, h]
theorem createD_ok {d : Dk} (h : d.fails = false) (n : Int) : createD d n = (0, { d with F := d.F ++ [(n, [])] }) := by unfold createD orSink; rw [tickB_no h, tickD_no h]; rfl
theorem syncD_ok {d : Dk} (h : d.fails = false) : syncD d = (0, { d with Q := [] }) := by unfold syncD orSink; rw [tickB_no h, tickD_no h]; rfl
theorem appendD_ok {d : Dk} (h : d.fails = false) (n : Int) (s0 s : List UInt8) : appendD d n s0 s = (0, putD d n s0 s) := by
  unfold appendD orSink; rw [tickB_no (d := putD d n s0 s) h, tickD_no (d := putD d n s0 s) h]; rfl
/-- What holds before scrap i. -/
structure Base (i : Nat) (d : Dk) (Ws : List ByteArray) : Prop where
  wf : WF d
  up : d.down = false
  nofail : d.fails = false
  cap : d.cap = 3000
  lef : d.left = 0
  st : d.starts = 0
  keys : d.F.map (·.1) = [0, 1, 2, 3]
  len : filesLen d.F ≤ 50 * i
  lenQ : d.Q.length ≤ i
  allQ : looseAll d.Q ≤ 50 * i
  four : Ws.length = 4
  wlen : ∀ k : Nat, (Ws.getD k ⟨#[]⟩).size ≤ 50 * i
def PhA (d : Dk) (Ws : List ByteArray) (left keep : Int) : Prop := left = max keep 0 ∧ ∀ k : Nat, k < 4 → Kw.tget d.F (k : Int) = some (wk Ws k)
def PhB (d : Dk) (Ws : List ByteArray) (left keep : Int) : Prop := left = max (goneSt d.Q keep).1 0 ∧ ∀ k : Nat, k < 4 → ∃ s, Kw.tget d.F (k : Int) = some s ∧ wk Ws k = cutL s (lookI (goneOf d.Q keep) k) ∧ (0 < left → lookI (goneOf d.Q keep) k = 0)
theorem Base.start : Base 0 ⟨mkF 4, [], 3000, false, 0, false, 0, 0⟩ (List.replicate 4 ⟨#[]⟩) where
  wf := WF.nil rfl (by unfold okI; dsimp only; omega) (by show filesLen (mkF 4) ≤ _; rw [mkF_files]; omega)
  up := rfl
  nofail := rfl
  cap := rfl
  lef := rfl
  st := rfl
  keys := by decide
  len := by show filesLen (mkF 4) ≤ _; rw [mkF_files]; omega
  lenQ := Nat.le_refl _
  allQ := Nat.le_refl _
  four := by simp
  wlen := fun k => by
    rw [List.getD_eq_getElem?_getD, List.getElem?_replicate]
    split <;> simp [ByteArray.size]
theorem PhA.start (keep : Int) : PhA ⟨mkF 4, [], 3000, false, 0, false, 0, 0⟩ (List.replicate 4 ⟨#[]⟩) (max keep 0) keep :=
  ⟨rfl, fun k hk => by
    have : k = 0 ∨ k = 1 ∨ k = 2 ∨ k = 3 := by omega
    rcases this with rfl | rfl | rfl | rfl <;> rfl⟩
theorem Base.sync {i : Nat} {d : Dk} {Ws : List ByteArray} (h : Base i d Ws) : Base i { d with Q := [] } Ws where
  wf := by have := h.wf.sync; rw [tickD_no h.nofail] at this; exact this
  up := h.up
  nofail := h.nofail
  cap := h.cap
  lef := h.lef
  st := h.st
  keys := h.keys
  len := h.len
  lenQ := Nat.zero_le _
  allQ := Nat.zero_le _
  four := h.four
  wlen := h.wlen
theorem PhA.sync {d : Dk} {Ws : List ByteArray} {left keep : Int} (h : PhA d Ws left keep) : PhB { d with Q := [] } Ws left keep :=
  ⟨h.1, fun k hk => ⟨_, h.2 k hk, by show wk Ws k = cutL (wk Ws k) 0; rw [cutL_zero], fun _ => rfl⟩⟩
theorem Base.put {i : Nat} {d : Dk} {Ws : List ByteArray} (h : Base i d Ws) (hi : i < 30) {k : Nat} (hk : k < 4) {s0 : List UInt8} (hg : Kw.tget d.F (k : Int) = some s0) {s : ByteArray} (hs : s.size ≤ 50) {u : ByteArray} (hu : u.size ≤ (Ws.getD k ⟨#[]⟩).size + s.size) :
    Base (i + 1) (putD d k s0 s.data.toList) (Ws.set k u) where
  wf := h.wf.put hg (by unfold okI; omega) (by have := h.lenQ; omega) (by have := h.allQ; rw [size_list]; omega) (by have := h.len; rw [size_list]; omega)
  up := h.up
  nofail := h.nofail
  cap := h.cap
  lef := h.lef
  st := h.st
  keys := by show (Kw.tset d.F (k : Int) _).map (·.1) = _; rw [tset_fst _ hg]; exact h.keys
  len := by have := filesLen_set (t := s0 ++ s.data.toList) hg; have h2 := h.len; rw [List.length_append, size_list] at this; show filesLen (Kw.tset d.F (k : Int) _) ≤ _; omega
  lenQ := by have := h.lenQ; show (d.Q ++ [_]).length ≤ _; rw [List.length_append]; simp; omega
  allQ := by have := h.allQ; show looseAll (d.Q ++ [_]) ≤ _; rw [looseAll_app, looseAll_one, size_list]; omega
  four := by rw [List.length_set]; exact h.four
  wlen := fun j => by
    rw [getD_set]
    have h1 := h.wlen j
    have h2 := h.wlen k
    split
    · omega
    · omega
theorem Base.fit {i : Nat} {d : Dk} {Ws : List ByteArray} (h : Base i d Ws) (hi : i < 30) {s : ByteArray} (hs : s.size ≤ 50) : (s.size : Int) ≤ freeD d := by
  unfold freeD; have := h.len; have := h.cap; omega
theorem PhA.put {d : Dk} {Ws : List ByteArray} {left keep : Int} (h : PhA d Ws left keep) (h4 : Ws.length = 4) {k : Nat} (hk : k < 4) {s0 : List UInt8} (hg : Kw.tget d.F (k : Int) = some s0) (s : ByteArray) : PhA (putD d k s0 s.data.toList) (Ws.set k (Ws.getD k ⟨#[]⟩ ++ s)) left keep := by
  refine ⟨h.1, fun j hj => ?_⟩
  show Kw.tget (Kw.tset d.F (k : Int) _) (j : Int) = _
  rw [Kw.tget_set, wk_set _ _ _ (by omega)]
  have h0 := h.2 k hk
  rw [hg] at h0
  by_cases e : j = k
  · subst e
    rw [if_pos rfl, if_pos rfl, Option.some.inj h0]
    unfold wk
    simp
  · rw [if_neg (by omega), if_neg e]; exact h.2 j hj
theorem bytes_extract (s : ByteArray) (m : Nat) : (s.extract 0 m).data.toList = s.data.toList.take m := by simp [List.extract_eq_take_drop]
theorem PhB.put {d : Dk} {Ws : List ByteArray} {left keep : Int} (h : PhB d Ws left keep) (h4 : Ws.length = 4) {k : Nat} (hk : k < 4) {s0 : List UInt8} (hg : Kw.tget d.F (k : Int) = some s0) (s : ByteArray) {mm : Nat} (hm : min (s.size : Int) left = (mm : Int)) :
    PhB (putD d k s0 s.data.toList) (Ws.set k (Ws.getD k ⟨#[]⟩ ++ s.extract 0 mm)) (left - mm) keep := by
  obtain ⟨hl, hf⟩ := h
  have hb := goneOf_bnd d.Q keep
  have hst : goneSt (d.Q ++ [((k : Int), s.data.toList.length)]) keep = stepG (goneSt d.Q keep) ((k : Int), s.data.toList.length) := goneSt_snoc _ _ _
  have hsl := size_list s
  have hgo : ∀ n, lookI (goneOf (d.Q ++ [((k : Int), s.data.toList.length)]) keep) n = if (k : Int) = n then lookI (goneOf d.Q keep) k + (s.size - mm) else lookI (goneOf d.Q keep) n := fun n => by
    have e : (goneSt (d.Q ++ [((k : Int), s.data.toList.length)]) keep).2 = Kw.tset (goneSt d.Q keep).2 (k : Int) (lookI (goneSt d.Q keep).2 (k : Int) + ((s.data.toList.length : Int) - min (max (goneSt d.Q keep).1 0) (s.data.toList.length : Int))) := by rw [hst]; rfl
    show lookI (goneSt _ keep).2 n = _
    rw [e, lookI_set]
    by_cases e2 : (k : Int) = n
    · rw [if_pos e2, if_pos e2]
      show lookI (goneOf d.Q keep) (k : Int) + _ = lookI (goneOf d.Q keep) (k : Int) + _
      omega
    · rw [if_neg e2, if_neg e2]; rfl
  refine ⟨?_, fun j hj => ?_⟩
  · show left - mm = max (goneSt (d.Q ++ [((k : Int), s.data.toList.length)]) keep).1 0
    have e : (goneSt (d.Q ++ [((k : Int), s.data.toList.length)]) keep).1 = (goneSt d.Q keep).1 - min (max (goneSt d.Q keep).1 0) (s.data.toList.length : Int) := by rw [hst]; rfl
    rw [e]; omega
  · show ∃ t, Kw.tget (Kw.tset d.F (k : Int) _) (j : Int) = some t ∧ wk _ j = cutL t (lookI (goneOf (d.Q ++ [((k : Int), s.data.toList.length)]) keep) j) ∧ (0 < left - mm → lookI (goneOf (d.Q ++ [((k : Int), s.data.toList.length)]) keep) j = 0)
    rw [Kw.tget_set, wk_set _ _ _ (by omega), hgo]
    by_cases e : j = k
    · subst e
      rw [if_pos rfl, if_pos rfl, if_pos rfl]
      obtain ⟨t, ht, hw, hz⟩ := hf j hj
      rw [hg] at ht
      obtain rfl : s0 = t := Option.some.inj ht
      have hbj := hb j
      refine ⟨_, rfl, ?_, fun hp => ?_⟩
      · have e1 : (Ws.getD j ⟨#[]⟩ ++ s.extract 0 mm).data.toList = wk Ws j ++ s.data.toList.take mm := by
          have := bytes_extract s mm
          simp only [ByteArray.data_append, Array.toList_append]
          rw [this]; rfl
        rw [e1, hw]
        unfold cutL
        rw [List.length_append, hsl]
        by_cases hp : 0 < left
        · rw [hz hp]
          have : s0.length + s.size - (0 + ((s.size : Int) - mm)).toNat = s0.length + mm := by omega
          rw [this, List.take_length_add_append]
          simp
        · have hm0 : mm = 0 := by omega
          subst hm0
          rw [List.take_zero, List.append_nil]
          have : s0.length + s.size - (lookI (goneOf d.Q keep) j + ((s.size : Int) - (0 : Nat))).toNat = s0.length - (lookI (goneOf d.Q keep) j).toNat := by omega
          rw [this, List.take_append_of_le_length (by omega)]
      · have := hz (by omega)
        omega
    · obtain ⟨t, ht, hw, hz⟩ := hf j hj
      rw [if_neg (by omega), if_neg e, if_neg (by omega)]
      exact ⟨t, ht, hw, fun hp => hz (by omega)⟩
/-- What holds before turn t. -/
structure Tn (t : Nat) (d : Dk) (Ws : List ByteArray) (keep : Int) : Prop where
  wf : WF d
  up : d.down = false
  st : d.starts = t
  four : Ws.length = 4
  good : ∀ k : Nat, k < 4 → Kw.tget (cutF d.F (goneOf d.Q keep)) (k : Int) = some (wk Ws k)
theorem Tn.start {i : Nat} {d : Dk} {Ws : List ByteArray} {left keep : Int} (h : Base i d Ws) (hB : PhB d Ws left keep) : Tn 0 d Ws keep :=
  ⟨h.wf, h.up, h.st, h.four, fun k hk => by
    obtain ⟨s, hs, hw, _⟩ := hB.2 k hk
    rw [tget_cutF, hs, hw]; rfl⟩
theorem Tn.next {t : Nat} {d : Dk} {Ws : List ByteArray} {keep : Int} (h : Tn t d Ws keep) : Tn (t + 1) (startD (crashD d keep)) Ws keep :=
  ⟨(h.wf.crash keep).start, rfl, by show d.starts + 1 = _; rw [h.st]; omega, h.four, fun k hk => by
    show Kw.tget (cutF (cutF d.F (goneOf d.Q keep)) []) (k : Int) = _
    rw [cutF_nil]; exact h.good k hk⟩
theorem PhB.le {d : Dk} {Ws : List ByteArray} {left keep : Int} (h : PhB d Ws left keep) (hk : okI keep) : 0 ≤ left ∧ left ≤ 9223372036854775807 := by
  have := (gone_bnd d.Q keep d.Q.length (Nat.le_refl _)).1.2
  rw [List.take_length] at this
  have h1 := h.1
  unfold okI at hk
  omega

end Go.Proofs.Ytcmgeadakncgmaa.Fn
