/- A disk in memory. -/
import Derived.Test.YtcmgeadakncgmaaKf
import Derived.Test.YtcmgeadakncgmaaKw9
namespace Go.Proofs.Ytcmgeadakncgmaa.Fn
open Go Go.Proofs Go.RowKit
set_option linter.unusedVariables false
set_option linter.unusedSimpArgs false
/-- Bytes as cells. -/
def byV (s : List UInt8) : List Value := s.map fun b => .int .u8 ((b.toNat : Nat) : Int)
theorem byV_length (s : List UInt8) : (byV s).length = s.length := by simp [byV]
theorem byV_app (s t : List UInt8) : byV (s ++ t) = byV s ++ byV t := by simp [byV]
theorem byV_take (s : List UInt8) (n : Nat) : byV (s.take n) = (byV s).take n := by simp [byV, List.map_take]
theorem byV_one (s : List UInt8) : ∀ u ∈ byV s, u.oneCell' = true := fun u hu => by
  obtain ⟨b, _, rfl⟩ := List.mem_map.1 hu; rfl
/-- Numbers as keys and values. -/
def iV (n : Int) : Value := .int .i64 n
def okI (n : Int) : Prop := -9223372036854775808 ≤ n ∧ n ≤ 9223372036854775807
theorem iV_inj (a b : Int) (h : iV a = iV b) : a = b := by unfold iV at h; cases h; rfl
theorem vV_inj (a b : Value) (h : id a = id b) : a = b := h
theorem KI3 : Kw.MapK Try.prog 3 iV okI where
  keyed := Maps.int_keyed Try.underlying3
  inj := iV_inj
  lit := fun a ha => by
    refine ⟨.int .i64 a, ?_⟩
    unfold okI at ha
    have : (Lit.int .i64 a).wf = true := by simp [Lit.wf, IntKind.min, IntKind.max, IntKind.signed, IntKind.bits]; omega
    exact Maps.keyOf_int_mk Try.underlying3 this
abbrev FM (w : World) (b : Nat) (T : List (Int × Value)) : Prop := Kw.TMap iV (id : Value → Value) okI w b T
abbrev GM (w : World) (b : Nat) (T : List (Int × Int)) : Prop := Kw.TMap iV iV okI w b T
abbrev ItF (w : World) (r b : Nat) (T V : List (Int × Value)) : Prop := Kw.Iter iV (id : Value → Value) okI w r b T V
abbrev ItG (w : World) (r b : Nat) (T V : List (Int × Int)) : Prop := Kw.Iter iV iV okI w r b T V
/-! ### Tables -/
section
variable {κ ν μ : Type} [DecidableEq κ]
theorem tget_map (f : ν → μ) (E : List (κ × ν)) (n : κ) : Kw.tget (E.map fun e => (e.1, f e.2)) n = (Kw.tget E n).map f := by
  induction E with
  | nil => rfl
  | cons p E ih =>
    rw [List.map_cons, Kw.tget, Kw.tget]
    by_cases h : p.1 = n
    · rw [if_pos h, if_pos h]; rfl
    · rw [if_neg h, if_neg h, ih]
theorem tget_map2 (f : κ → ν → μ) (E : List (κ × ν)) (n : κ) : Kw.tget (E.map fun e => (e.1, f e.1 e.2)) n = (Kw.tget E n).map (f n) := by
  induction E with
  | nil => rfl
  | cons p E ih =>
    rw [List.map_cons, Kw.tget, Kw.tget]
    by_cases h : p.1 = n
    · rw [if_pos h, if_pos h, h]; rfl
    · rw [if_neg h, if_neg h, ih]
theorem tset_map (f : ν → μ) (E : List (κ × ν)) (n : κ) (x : ν) : Kw.tset (E.map fun e => (e.1, f e.2)) n (f x) = (Kw.tset E n x).map fun e => (e.1, f e.2) := by
  induction E with
  | nil => rfl
  | cons p E ih =>
    rw [List.map_cons, Kw.tset, Kw.tset]
    by_cases h : p.1 = n
    · rw [if_pos h, if_pos h]; rfl
    · rw [if_neg h, if_neg h, ih]; rfl
theorem tset_fst {E : List (κ × ν)} {n : κ} {y : ν} (x : ν) (h : Kw.tget E n = some y) : (Kw.tset E n x).map (·.1) = E.map (·.1) := by
  induction E with
  | nil => cases h
  | cons p E ih =>
    rw [Kw.tget] at h
    rw [Kw.tset]
    by_cases hp : p.1 = n
    · rw [if_pos hp, List.map_cons, List.map_cons, ← hp]
    · rw [if_neg hp] at h
      rw [if_neg hp, List.map_cons, List.map_cons, ih h]
theorem tset_mem {E : List (κ × ν)} {n : κ} {x : ν} (hn : (E.map (·.1)).Nodup) : ∀ p ∈ Kw.tset E n x, p = (n, x) ∨ (p ∈ E ∧ p.1 ≠ n) := by
  induction E with
  | nil => intro p hp; simp [Kw.tset] at hp; exact .inl hp
  | cons q E ih =>
    rw [List.map_cons, List.nodup_cons] at hn
    intro p hp
    rw [Kw.tset] at hp
    split at hp
    · rename_i e
      rcases List.mem_cons.1 hp with h | h
      · exact .inl h
      · exact .inr ⟨by simp [h], fun e2 => hn.1 (by rw [e, ← e2]; exact List.mem_map.2 ⟨p, h, rfl⟩)⟩
    · rename_i e
      rcases List.mem_cons.1 hp with h | h
      · exact .inr ⟨by simp [h], by rw [h]; exact e⟩
      · rcases ih hn.2 p h with h | h
        · exact .inl h
        · exact .inr ⟨by simp [h.1], h.2⟩
theorem tget_ext {A B : List (κ × ν)} (hk : A.map (·.1) = B.map (·.1)) (hn : (A.map (·.1)).Nodup) (h : ∀ k, Kw.tget A k = Kw.tget B k) : A = B := by
  induction A generalizing B with
  | nil => cases B with
    | nil => rfl
    | cons b B => simp at hk
  | cons a A ih => cases B with
    | nil => simp at hk
    | cons b B =>
      rw [List.map_cons, List.map_cons, List.cons.injEq] at hk
      rw [List.map_cons, List.nodup_cons] at hn
      have h0 := h a.1
      rw [Kw.tget, if_pos rfl, Kw.tget, if_pos hk.1.symm] at h0
      have e : a = b := Prod.ext hk.1 (Option.some.inj h0)
      subst e
      congr 1
      refine ih hk.2 hn.2 fun k => ?_
      by_cases hka : a.1 = k
      · have n1 : Kw.tget A k = none := Kw.tget_none fun p hp hpe => hn.1 (by rw [hka, ← hpe]; exact List.mem_map.2 ⟨p, hp, rfl⟩)
        have n2 : Kw.tget B k = none := Kw.tget_none fun p hp hpe => hn.1 (by rw [hk.2, hka, ← hpe]; exact List.mem_map.2 ⟨p, hp, rfl⟩)
        rw [n1, n2]
      · have := h k
        rw [Kw.tget, if_neg hka, Kw.tget, if_neg hka] at this
        exact this
theorem tget_perm {L M : List (κ × ν)} (hL : (L.map (·.1)).Nodup) (h : L.Perm M) (k : κ) : Kw.tget L k = Kw.tget M k := by
  have hM : (M.map (·.1)).Nodup := (h.map _).nodup_iff.1 hL
  cases h1 : Kw.tget L k with
  | some v => exact (Kw.mem_tget hM (h.mem_iff.1 (Kw.tget_mem h1))).symm
  | none =>
    have := Kw.tget_not h1
    exact (Kw.tget_none fun p hp => this p (h.mem_iff.2 hp)).symm
theorem tget_snoc (V : List (κ × ν)) (p : κ × ν) (k : κ) : Kw.tget (V ++ [p]) k = match Kw.tget V k with | some u => some u | none => if p.1 = k then some p.2 else none := by
  induction V with
  | nil => rfl
  | cons q V ih =>
    rw [List.cons_append, Kw.tget, Kw.tget]
    by_cases h : q.1 = k
    · rw [if_pos h, if_pos h]
    · rw [if_neg h, if_neg h, ih]
end
/-! ### Files in memory -/
abbrev File := Int × (Value × List UInt8)
def fT (E : List File) : List (Int × Value) := E.map fun e => (e.1, e.2.1)
def fD (E : List File) : List (Int × List UInt8) := E.map fun e => (e.1, e.2.2)
theorem tget_fT (E : List File) (n : Int) : Kw.tget (fT E) n = (Kw.tget E n).map (·.1) := tget_map (f := fun x : Value × List UInt8 => x.1) E n
theorem tget_fD (E : List File) (n : Int) : Kw.tget (fD E) n = (Kw.tget E n).map (·.2) := tget_map (f := fun x : Value × List UInt8 => x.2) E n
theorem tset_fT (E : List File) (n : Int) (v : Value) (s : List UInt8) : Kw.tset (fT E) n v = fT (Kw.tset E n (v, s)) := tset_map (f := fun x : Value × List UInt8 => x.1) E n (v, s)
theorem tset_fD (E : List File) (n : Int) (v : Value) (s : List UInt8) : Kw.tset (fD E) n s = fD (Kw.tset E n (v, s)) := tset_map (f := fun x : Value × List UInt8 => x.2) E n (v, s)
theorem fT_fst (E : List File) : (fT E).map (·.1) = E.map (·.1) := by simp [fT, List.map_map, Function.comp_def]
theorem fD_fst (E : List File) : (fD E).map (·.1) = E.map (·.1) := by simp [fD, List.map_map, Function.comp_def]
/-- Each file's bytes lie in a row of its own, that q does not name. -/
def Files (w : World) (B : Nat) (q : Nat → Prop) (E : List File) : Prop :=
  (∀ e ∈ E, Kw.Own w B 5 1 e.2.1 e.2.2.length (byV e.2.2) ∧ ∀ g, Kw.ob e.2.1 = some g → ¬ q g) ∧ ∀ a ∈ E, ∀ b ∈ E, a.1 ≠ b.1 → ∀ g, Kw.ob a.2.1 = some g → Kw.ob b.2.1 ≠ some g
theorem Files.nil (w : World) (B : Nat) (q : Nat → Prop) : Files w B q [] := ⟨fun e he => absurd he (by simp), fun e he => absurd he (by simp)⟩
theorem Files.mono {w : World} {B : Nat} {q q' : Nat → Prop} {E : List File} (h : Files w B q E) (hq : ∀ k, k < w.heap.size → q' k → q k) : Files w B q' E :=
  ⟨fun e he => ⟨(h.1 e he).1, fun g hg hk => (h.1 e he).2 g hg (hq g ((h.1 e he).1.lt hg) hk)⟩, h.2⟩
theorem Files.mut {w w' : World} {B : Nat} {q p : Nat → Prop} {E : List File} (h : Files w B q E) (m : Kw.Mut p w w') (hp : ∀ k, p k → q k) : Files w' B q E :=
  ⟨fun e he => ⟨(h.1 e he).1.mut m fun g hg hk => (h.1 e he).2 g hg (hp g hk), (h.1 e he).2⟩, h.2⟩
theorem Files.get {w : World} {B : Nat} {q : Nat → Prop} {E : List File} (h : Files w B q E) {n : Int} {v : Value} {s : List UInt8} (hn : Kw.tget E n = some (v, s)) : Kw.Own w B 5 1 v s.length (byV s) ∧ ∀ g, Kw.ob v = some g → ¬ q g :=
  h.1 _ (Kw.tget_mem hn)
/-- The file that is asked for stands apart. -/
theorem Files.set {w w' : World} {B : Nat} {q p : Nat → Prop} {E : List File} (h : Files w B q E) (hnd : (E.map (·.1)).Nodup) {n : Int} {v : Value} {s : List UInt8} (ho : Kw.Own w' B 5 1 v s.length (byV s)) (hq : ∀ g, Kw.ob v = some g → ¬ q g)
    (m : Kw.Mut p w w') (hp : ∀ e ∈ E, e.1 ≠ n → ∀ g, Kw.ob e.2.1 = some g → ¬ p g ∧ Kw.ob v ≠ some g) : Files w' B q (Kw.tset E n (v, s)) := by
  refine ⟨fun e he => ?_, fun a ha b hb hne g hg => ?_⟩
  · rcases tset_mem hnd e he with rfl | ⟨he, hne⟩
    · exact ⟨ho, hq⟩
    · exact ⟨(h.1 e he).1.mut m fun g hg => (hp e he hne g hg).1, (h.1 e he).2⟩
  · rcases tset_mem hnd a ha with rfl | ⟨ha, han⟩
    · rcases tset_mem hnd b hb with rfl | ⟨hb, hbn⟩
      · exact absurd rfl hne
      · exact fun hbg => (hp b hb hbn g hbg).2 hg
    · rcases tset_mem hnd b hb with rfl | ⟨hb, hbn⟩
      · exact (hp a ha han g hg).2
      · exact h.2 a ha b hb hne g hg
/-! ### A disk -/
structure Dk where
  F : List (Int × List UInt8)
  Q : List (Int × Nat)
  cap : Int
  down : Bool
  starts : Int
  fails : Bool
  left : Int
  keep : Int
def dkCells (d : Dk) (mb : Nat) (lv : Value) : Array Value := #[.map (some mb), lv, .int .i64 d.cap, .bool d.down, .int .i64 d.starts, .bool d.fails, .int .i64 d.left, .int .i64 d.keep]
def flatQ (Q : List (Int × Nat)) : List Value := Q.flatMap fun p => [.int .i64 p.1, .int .i64 (p.2 : Int)]
theorem flatQ_length (Q : List (Int × Nat)) : (flatQ Q).length = Q.length * 2 := by
  induction Q with
  | nil => rfl
  | cons k Q ih =>
    have e : flatQ (k :: Q) = .int .i64 k.1 :: .int .i64 (k.2 : Int) :: flatQ Q := rfl
    rw [e, List.length_cons, List.length_cons, ih, List.length_cons]; omega
theorem flatQ_get (Q : List (Int × Nat)) (i : Nat) (h : i < Q.length) : (flatQ Q)[i * 2]? = some (.int .i64 (Q[i]'h).1) ∧ (flatQ Q)[i * 2 + 1]? = some (.int .i64 ((Q[i]'h).2 : Int)) := by
  induction Q generalizing i with
  | nil => exact absurd h (Nat.not_lt_zero _)
  | cons k Q ih =>
    have e : flatQ (k :: Q) = .int .i64 k.1 :: .int .i64 (k.2 : Int) :: flatQ Q := rfl
    cases i with
    | zero => exact ⟨rfl, rfl⟩
    | succ i =>
      have := ih i (by simpa using h)
      rw [e, show (i + 1) * 2 = i * 2 + 1 + 1 by omega]
      simp only [List.getElem?_cons_succ, List.getElem_cons_succ]
      exact this
theorem flatQ_snoc (Q : List (Int × Nat)) (p : Int × Nat) : flatQ (Q ++ [p]) = flatQ Q ++ [.int .i64 p.1, .int .i64 (p.2 : Int)] := by unfold flatQ; simp
/-- The blocks that a call may turn: from B on, but those that N names. -/
def Mine (B : Nat) (N : Nat → Prop) (k : Nat) : Prop := B ≤ k ∧ ¬ N k
/-- A disk in memory, in blocks from B on that N does not name. -/
def DK (w : World) (B : Nat) (N : Nat → Prop) (tb : Nat) (d : Dk) : Prop :=
  ∃ mb lv E, fD E = d.F ∧ Kw.At w tb (dkCells d mb lv) 52 ∧ FM w mb (fT E) ∧ Kw.Own w B 56 2 lv d.Q.length (flatQ d.Q) ∧ mb ≠ tb ∧ Kw.ob lv ≠ some tb ∧ Kw.ob lv ≠ some mb ∧
    Files w B (fun k => N k ∨ k = tb ∨ k = mb ∨ Kw.ob lv = some k) E ∧ Mine B N tb ∧ Mine B N mb ∧ ∀ g, Kw.ob lv = some g → ¬ N g
theorem DK.keep {w w' : World} {B tb : Nat} {N p : Nat → Prop} {d : Dk} (h : DK w B N tb d) (m : Kw.Mut p w w') (hp : ∀ k, p k → N k) : DK w' B N tb d := by
  obtain ⟨mb, lv, E, h1, h2, h3, h4, h5, h6, h7, h8, h9, h10, h11⟩ := h
  exact ⟨mb, lv, E, h1, h2.mut m (fun hk => h9.2 (hp _ hk)), h3.mut m (fun hk => h10.2 (hp _ hk)), h4.mut m (fun g hg hk => h11 g hg (hp _ hk)), h5, h6, h7, h8.mut m (fun k hk => .inl (hp k hk)), h9, h10, h11⟩
theorem DK.call {w w' : World} {B tb : Nat} {N : Nat → Prop} {d : Dk} (h : DK w B N tb d) (b : Below w.heap.size w w') : DK w' B N tb d :=
  h.keep (Kw.Mut.of_below (p := fun _ => False) b) (fun k hk => hk.elim)
theorem DK.also {w : World} {B tb : Nat} {N M : Nat → Prop} {d : Dk} (h : DK w B N tb d) (hM : ∀ k, M k → N k ∨ w.heap.size ≤ k) : DK w B M tb d := by
  obtain ⟨mb, lv, E, h1, h2, h3, h4, h5, h6, h7, h8, h9, h10, h11⟩ := h
  have no : ∀ k, k < w.heap.size → ¬ N k → ¬ M k := fun k hk hn hm => by rcases hM k hm with h | h; exact hn h; omega
  refine ⟨mb, lv, E, h1, h2, h3, h4, h5, h6, h7, h8.mono fun k hk hq => ?_, ⟨h9.1, no _ h2.lt h9.2⟩, ⟨h10.1, no _ h3.lt h10.2⟩, fun g hg => no _ (h4.lt hg) (h11 g hg)⟩
  rcases hq with hq | hq
  · rcases hM k hq with h | h
    · exact .inl h
    · omega
  · exact .inr hq
theorem DK.nodup {w : World} {B tb : Nat} {N : Nat → Prop} {d : Dk} (h : DK w B N tb d) : (d.F.map (·.1)).Nodup := by
  obtain ⟨mb, lv, E, h1, h2, h3, _⟩ := h
  have := h3.nodup KI3
  rw [fT_fst] at this
  rw [← h1, fD_fst]; exact this

end Go.Proofs.Ytcmgeadakncgmaa.Fn
