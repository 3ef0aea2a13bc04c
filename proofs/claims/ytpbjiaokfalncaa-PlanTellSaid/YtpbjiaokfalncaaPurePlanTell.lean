/- PlanTell is true at every input: the program's Chunk, Ask and Rounds answer as the document's do, at any three numbers. No condition. -/
import Derived.Test.YtpbjiaokfalncaaPPlanTellx3
namespace Go.Proofs.Ytpbjiaokfalncaa.Pure
open Go.RowKit Go.Proofs.Ytpbjiaokfalncaa.PPlanTell Go.Proofs.YtpbjiaokfalncaaW.PrintWords Go.Proofs.YtpbjiaokfalncaaW.PrintLast

theorem w64 {x : Int} (h0 : -9223372036854775808 ≤ x) (h1 : x ≤ 9223372036854775807) : wrap64 x = x := by unfold wrap64; omega

/-- There is something to ask for. -/
def may (h s : Int) : Prop := 0 ≤ h ∧ h < s ∧ s ≤ 4096
instance (h s : Int) : Decidable (may h s) := by unfold may; infer_instance

def cnt (h s : Int) : Int := if s - h < 16 - h % 16 then s - h else 16 - h % 16
def chunkV (h s : Int) : Int × Int := if may h s then (h, cnt h s) else (0, 0)
def roundsV (h s : Int) : Int := if may h s then (s + 15) / 16 - h / 16 else 0
def askV (i h s : Int) : Int × Int × Int × Int × Int × Bool := if may h s then (i, 2, h, cnt h s, s, true) else (0, 0, 0, 0, 0, false)

theorem cnt_pos {h s : Int} (m : may h s) : 1 ≤ cnt h s ∧ cnt h s ≤ 16 ∧ h + cnt h s ≤ s := by
  obtain ⟨a, b, c⟩ := m; unfold cnt; split <;> omega

theorem may_f (h s : Int) : plan_may.f h s = some (decide (may h s)) := by
  unfold plan_may.f
  by_cases a : h ≥ 0
  · rw [if_pos a]
    by_cases b : h < s
    · rw [if_pos b]; exact congrArg some (decide_eq_decide.2 ⟨fun c => ⟨a, b, c⟩, fun m => m.2.2⟩)
    · rw [if_neg b, decide_eq_false (fun m : may h s => b m.2.1)]
  · rw [if_neg a, decide_eq_false (fun m : may h s => a m.1)]

theorem chunk_f (h s : Int) : plan_Chunk.f h s = some (chunkV h s) := by
  unfold plan_Chunk.f chunkV
  rw [may_f]; simp only [Option.bind_some]
  by_cases m : may h s
  · rw [if_pos (by simp [m]), if_pos m]
    obtain ⟨a, b, c⟩ := m
    rw [Int.tmod_eq_emod_of_nonneg a, w64 (by omega) (by omega), w64 (by omega) (by omega)]
    unfold mn cnt; rfl
  · rw [if_neg (by simp [m]), if_neg m]

theorem ask_f (i h s : Int) : plan_Ask.f i h s = some (askV i h s) := by
  unfold plan_Ask.f askV
  rw [chunk_f]; simp only [Option.bind_some]; unfold chunkV
  by_cases m : may h s
  · rw [if_pos m, if_pos m]; have := cnt_pos m
    rw [if_neg (by show ¬ cnt h s = 0; omega)]
  · rw [if_neg m, if_neg m]; rw [if_pos rfl]

theorem rounds_f (h s : Int) : plan_Rounds.f h s = some (roundsV h s) := by
  unfold plan_Rounds.f roundsV
  rw [may_f]; simp only [Option.bind_some]
  by_cases m : may h s
  · rw [if_pos (by simp [m]), if_pos m]
    obtain ⟨a, b, c⟩ := m
    rw [w64 (x := s + 16) (by omega) (by omega), w64 (x := s + 16 - 1) (by omega) (by omega), Int.tdiv_eq_ediv_of_nonneg (by omega), Int.tdiv_eq_ediv_of_nonneg a,
      w64 (x := (s + 16 - 1) / 16) (by omega) (by omega), w64 (x := h / 16) (by omega) (by omega), w64 (by omega) (by omega)]
    congr 1; omega
  · rw [if_neg (by simp [m]), if_neg m]

/-! ### The document's own -/
theorem ref_loop {h s : Int} (m : may h s) (d : Nat) : ∀ n : Int, 1 ≤ n → n + d = cnt h s → Ev (fun k => speculumref24_Chunk.l0 k h s n) (h, cnt h s) := by
  obtain ⟨a, b, c⟩ := m
  induction d with
  | zero =>
    intro n h1 h2
    have e : n = cnt h s := by omega
    refine Ev.step (f := fun _ => some (h, cnt h s)) (fun k => ?_) (Ev.now _)
    simp only [speculumref24_Chunk.l0]
    have q := cnt_pos ⟨a, b, c⟩
    rw [w64 (by omega) (by omega), Int.tmod_eq_emod_of_nonneg (by omega)]
    by_cases l : h + n < s
    · rw [if_pos l, if_pos (by unfold cnt at e; split at e <;> omega), e]
    · rw [if_neg l, e]
  | succ d ih =>
    intro n h1 h2
    refine Ev.step (fun k => ?_) (ih (n + 1) (by omega) (by omega))
    simp only [speculumref24_Chunk.l0]
    have q := cnt_pos ⟨a, b, c⟩
    rw [w64 (by omega) (by omega), w64 (x := n + 1) (by omega) (by omega), Int.tmod_eq_emod_of_nonneg (by omega), if_pos (by omega), if_neg (by unfold cnt at h2; split at h2 <;> omega)]

theorem ref_j (h s : Int) (b : Bool) (hb : b = !decide (may h s)) : Ev (fun k => speculumref24_Chunk.j0 k h s b) (chunkV h s) := by
  subst hb
  by_cases m : may h s
  · have q := cnt_pos m
    refine Ev.step (fun k => ?_) (by have := ref_loop m (cnt h s - 1).toNat 1 (by omega) (by omega); unfold chunkV; rw [if_pos m]; exact this)
    simp only [speculumref24_Chunk.j0]; rw [if_neg (by simp [m])]
  · refine Ev.step (f := fun _ => some (0, 0)) (fun k => ?_) (by unfold chunkV; rw [if_neg m]; exact Ev.now _)
    simp only [speculumref24_Chunk.j0]; rw [if_pos (by simp [m])]

theorem ref_f (h s : Int) : Ev (fun k => speculumref24_Chunk.f k h s) (chunkV h s) := by
  by_cases a : h < 0
  · exact Ev.congr (fun k => by unfold speculumref24_Chunk.f; rw [if_pos a]) (ref_j h s true (by rw [decide_eq_false (fun m : may h s => by have := m.1; omega)]; rfl))
  · by_cases b : s > 4096
    · exact Ev.congr (fun k => by unfold speculumref24_Chunk.f; rw [if_neg a, if_pos b]) (ref_j h s true (by rw [decide_eq_false (fun m : may h s => by have := m.2.2; omega)]; rfl))
    · exact Ev.congr (fun k => by unfold speculumref24_Chunk.f; rw [if_neg a, if_neg b]) (ref_j h s _ (by rw [← decide_not]; exact decide_eq_decide.2 ⟨fun g m => by have := m.2.1; omega, fun g => by unfold may at g; omega⟩))

theorem refAsk_f (i h s : Int) : Ev (fun k => speculumref24_Ask.f k i h s) (askV i h s) := by
  refine Ev.bind (ref_f h s) (Ev.congr (f := fun _ => some (askV i h s)) (fun k => ?_) (Ev.now _))
  have := ask_f i h s
  unfold plan_Ask.f at this
  rw [chunk_f] at this
  exact this

theorem refRounds_loop (s : Int) (d : Nat) : ∀ h m : Int, 0 ≤ m → m ≤ 100000 → (may h s → s - h ≤ d ∧ m + (s - h) ≤ 100000) → (¬ may h s → True) → Ev (fun k => speculumref24_Rounds.l0 k h s m) (m + roundsV h s) := by
  induction d with
  | zero =>
    intro h m h0 h1 h2 _
    have nm : ¬ may h s := fun q => by have := h2 q; obtain ⟨a, b, c⟩ := q; omega
    refine Ev.step (fun k => rfl) (Ev.bind (ref_f h s) ?_)
    refine Ev.congr (f := fun _ => some (m + roundsV h s)) (fun k => ?_) (Ev.now _)
    unfold chunkV roundsV; rw [if_neg nm, if_neg nm, if_pos rfl]; congr 1; omega
  | succ d ih =>
    intro h m h0 h1 h2 _
    refine Ev.step (fun k => rfl) (Ev.bind (ref_f h s) ?_)
    by_cases q : may h s
    · have c := cnt_pos q
      obtain ⟨e1, e2⟩ := h2 q
      obtain ⟨q1, q2, q3⟩ := q
      have q : may h s := ⟨q1, q2, q3⟩
      refine Ev.congr (fun k => ?_) (f := fun k => speculumref24_Rounds.l0 k (h + cnt h s) s (m + 1)) ?_
      · unfold chunkV; rw [if_pos q]
        rw [if_neg (by show ¬ cnt h s = 0; omega)]
        show speculumref24_Rounds.l0 k (wrap64 (h + cnt h s)) s (wrap64 (m + 1)) = _
        rw [w64 (by omega) (by omega), w64 (by omega) (by omega)]
      · have hh := ih (h + cnt h s) (m + 1) (by omega) (by omega) (by rintro ⟨_, _, _⟩; omega) (fun _ => trivial)
        have e : m + 1 + roundsV (h + cnt h s) s = m + roundsV h s := by
          unfold roundsV; rw [if_pos q]
          by_cases r : may (h + cnt h s) s
          · rw [if_pos r]; obtain ⟨r1, r2, r3⟩ := r; unfold cnt at *; split <;> rename_i z <;> simp only [z, if_true, if_false] at r2 <;> omega
          · rw [if_neg r]
            have : h + cnt h s = s := by
              unfold may at r; omega
            unfold cnt at this; split at this <;> omega
        rw [← e]; exact hh
    · refine Ev.congr (f := fun _ => some (m + roundsV h s)) (fun k => ?_) (Ev.now _)
      unfold chunkV roundsV; rw [if_neg q, if_neg q, if_pos rfl]; congr 1; omega

theorem refRounds_f (h s : Int) : Ev (fun k => speculumref24_Rounds.f k h s) (roundsV h s) := by
  have := refRounds_loop s 4096 h 0 (by omega) (by omega) (by rintro ⟨_, _, _⟩; omega) (fun _ => trivial)
  rw [Int.zero_add] at this
  exact Ev.congr (fun k => rfl) this

theorem planned_f : speculumlaw24_planned.f = some true := by decide +kernel

theorem round {x0 x1 x2 x7 h s : Int} (hx : 0 ≤ x7 ∧ x7 < 3) (g : Ev (fun k => speculumlaw24_PlanTell.l0 k x0 x1 x2 (x7 + 1)) true) :
    Ev (fun k => speculumlaw24_PlanTell.j2 k x0 x1 x2 x7 h s) true := by
  refine Ev.step (fun k => rfl) ?_
  refine Ev.bind (Ev.congr (fun k => chunk_f h s) (Ev.now _)) ?_
  refine Ev.bind (ref_f h s) ?_
  refine Ev.bind (Ev.congr (fun k => ask_f x0 h s) (Ev.now _)) ?_
  refine Ev.bind (refAsk_f x0 h s) ?_
  refine Ev.congr (fun k => ?_) (Ev.bind (g := fun _ => plan_Rounds.f h s) (f := fun k t => (speculumref24_Rounds.f k h s).bind fun t' => if t = t' then speculumlaw24_PlanTell.l0 k x0 x1 x2 (wrap64 (x7 + 1)) else some false) (Ev.congr (fun k => rounds_f h s) (Ev.now _)) (Ev.bind (refRounds_f h s) (Ev.congr (fun k => ?_) g)))
  · rw [if_pos rfl, if_pos rfl, if_neg (by simp), if_neg (by simp)]
  · rw [if_pos rfl, w64 (by omega) (by omega)]

theorem PlanTell : speculumlaw24_PlanTell.Pure := by
  intro a0 a1 a2 _ _ _
  refine Ev.rounds (g := fun k => speculumlaw24_PlanTell.f k a0 a1 a2) (Ev.congr (fun k => rfl) (f := fun k => speculumlaw24_PlanTell.l0 k a0 a1 a2 0) ?_)
  have l3 : Ev (fun k => speculumlaw24_PlanTell.l0 k a0 a1 a2 3) true := by
    refine Ev.step (f := fun _ => some true) (fun k => ?_) (Ev.now _)
    simp only [speculumlaw24_PlanTell.l0]; rw [if_neg (by omega), planned_f]; rfl
  have l2 : Ev (fun k => speculumlaw24_PlanTell.l0 k a0 a1 a2 2) true := by
    refine Ev.step (fun k => by simp only [speculumlaw24_PlanTell.l0]; rw [if_pos (by omega), if_neg (by omega)]) ?_
    refine Ev.step (fun k => by simp only [speculumlaw24_PlanTell.j1]; rw [if_pos trivial]) ?_
    exact round (by omega) l3
  have l1 : Ev (fun k => speculumlaw24_PlanTell.l0 k a0 a1 a2 1) true := by
    refine Ev.step (fun k => by simp only [speculumlaw24_PlanTell.l0]; rw [if_pos (by omega), if_pos trivial]) ?_
    refine Ev.step (fun k => by simp only [speculumlaw24_PlanTell.j1]; rw [if_neg (by omega)]) ?_
    exact round (by omega) l2
  refine Ev.step (fun k => by simp only [speculumlaw24_PlanTell.l0]; rw [if_pos (by omega), if_neg (by omega)]) ?_
  refine Ev.step (fun k => by simp only [speculumlaw24_PlanTell.j1]; rw [if_neg (by omega)]) ?_
  exact round (by omega) l1

end Go.Proofs.Ytpbjiaokfalncaa.Pure
