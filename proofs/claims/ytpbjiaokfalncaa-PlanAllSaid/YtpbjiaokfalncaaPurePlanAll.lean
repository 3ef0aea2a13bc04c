/- PlanAll is true at every input: chunks, one behind the other, are all entries up to the size, each of 1 to 16, as many as Rounds tells. No condition. -/
import Derived.Test.YtpbjiaokfalncaaPPlanAllx1
namespace Go.Proofs.Ytpbjiaokfalncaa.Pure
open Go.RowKit Go.Proofs.Ytpbjiaokfalncaa.PPlanAll Go.Proofs.YtpbjiaokfalncaaW.PrintWords Go.Proofs.YtpbjiaokfalncaaW.PrintLast

theorem w64 {x : Int} (h0 : -9223372036854775808 ≤ x) (h1 : x ≤ 9223372036854775807) : wrap64 x = x := by unfold wrap64; omega

/-- There is something to ask for. -/
def may (h s : Int) : Prop := 0 ≤ h ∧ h < s ∧ s ≤ 4096
instance (h s : Int) : Decidable (may h s) := by unfold may; infer_instance

def cnt (h s : Int) : Int := if s - h < 16 - h % 16 then s - h else 16 - h % 16
def chunkV (h s : Int) : Int × Int := if may h s then (h, cnt h s) else (0, 0)
def roundsV (h s : Int) : Int := if may h s then (s + 15) / 16 - h / 16 else 0
def askV (i h s : Int) : Int × Int × Int × Int × Int × Bool := if may h s then (i, 2, h, cnt h s, s, true) else (0, 0, 0, 0, 0, false)

theorem cnt_pos {h s : Int} (m : may h s) : 1 ≤ cnt h s ∧ cnt h s ≤ 16 ∧ h + cnt h s ≤ s := by
  obtain ⟨a, b, c⟩ := m; unfold cnt; split <;> omega

theorem may_f (h s : Int) : plan_may.f h s = some (decide (may h s)) := by
  unfold plan_may.f
  by_cases a : h ≥ 0
  · rw [if_pos a]
    by_cases b : h < s
    · rw [if_pos b]; exact congrArg some (decide_eq_decide.2 ⟨fun c => ⟨a, b, c⟩, fun m => m.2.2⟩)
    · rw [if_neg b, decide_eq_false (fun m : may h s => b m.2.1)]
  · rw [if_neg a, decide_eq_false (fun m : may h s => a m.1)]

theorem chunk_f (h s : Int) : plan_Chunk.f h s = some (chunkV h s) := by
  unfold plan_Chunk.f chunkV
  rw [may_f]; simp only [Option.bind_some]
  by_cases m : may h s
  · rw [if_pos (by simp [m]), if_pos m]
    obtain ⟨a, b, c⟩ := m
    rw [Int.tmod_eq_emod_of_nonneg a, w64 (by omega) (by omega), w64 (by omega) (by omega)]
    unfold mn cnt; rfl
  · rw [if_neg (by simp [m]), if_neg m]

theorem ask_f (i h s : Int) : plan_Ask.f i h s = some (askV i h s) := by
  unfold plan_Ask.f askV
  rw [chunk_f]; simp only [Option.bind_some]; unfold chunkV
  by_cases m : may h s
  · rw [if_pos m, if_pos m]; have := cnt_pos m
    rw [if_neg (by show ¬ cnt h s = 0; omega)]
  · rw [if_neg m, if_neg m]; rw [if_pos rfl]

theorem rounds_f (h s : Int) : plan_Rounds.f h s = some (roundsV h s) := by
  unfold plan_Rounds.f roundsV
  rw [may_f]; simp only [Option.bind_some]
  by_cases m : may h s
  · rw [if_pos (by simp [m]), if_pos m]
    obtain ⟨a, b, c⟩ := m
    rw [w64 (x := s + 16) (by omega) (by omega), w64 (x := s + 16 - 1) (by omega) (by omega), Int.tdiv_eq_ediv_of_nonneg (by omega), Int.tdiv_eq_ediv_of_nonneg a,
      w64 (x := (s + 16 - 1) / 16) (by omega) (by omega), w64 (x := h / 16) (by omega) (by omega), w64 (by omega) (by omega)]
    congr 1; omega
  · rw [if_neg (by simp [m]), if_neg m]

theorem planned_f : speculumlaw24_planned.f = some true := by decide +kernel

theorem cnt_end {h s : Int} (m : may h s) : h + cnt h s = s ∨ (h + cnt h s) % 16 = 0 := by
  obtain ⟨a, b, c⟩ := m; unfold cnt; split <;> omega

theorem rounds_next {h s : Int} (m : may h s) : roundsV h s = 1 + roundsV (h + cnt h s) s := by
  have c := cnt_pos m
  unfold roundsV; rw [if_pos m]
  obtain ⟨m1, m2, m3⟩ := m
  by_cases r : may (h + cnt h s) s
  · rw [if_pos r]; obtain ⟨r1, r2, r3⟩ := r; unfold cnt at *; split <;> rename_i z <;> simp only [z, if_true, if_false] at r2 <;> omega
  · rw [if_neg r]
    have e : h + cnt h s = s := by unfold may at r; omega
    unfold cnt at e; split at e <;> omega

theorem rounds_pos {h s : Int} (m : may h s) : 1 ≤ roundsV h s ∧ roundsV h s ≤ 256 := by
  unfold roundsV; rw [if_pos m]; obtain ⟨a, b, c⟩ := m; omega

theorem all_loop (h n : Int) (hn : n ≤ 4096) (d : Nat) : ∀ at_ many i : Int, 0 ≤ i → 0 ≤ at_ → at_ ≤ 5000 → (i > 0 → at_ % 16 = 0 ∨ at_ = n) → many = i + roundsV at_ n → many ≤ 256 → (¬ may at_ n → at_ = n ∨ (h ≥ n ∧ many = 0)) → (n - at_).toNat ≤ d →
    Ev (fun k => speculumlaw24_PlanAll.l0 k h n at_ many i) true := by
  induction d with
  | zero =>
    intro a many i i0 a0 a5 hi hm hb he hd
    have nm : ¬ may a n := fun q => by have := q.2.1; omega
    have r0 : roundsV a n = 0 := by unfold roundsV; rw [if_neg nm]
    refine Ev.step (f := fun _ => some true) (fun k => ?_) (Ev.now _)
    simp only [speculumlaw24_PlanAll.l0]
    rw [if_neg (by omega), ask_f]; simp only [Option.bind_some]
    have ea : askV 0 a n = (0, 0, 0, 0, 0, false) := by unfold askV; rw [if_neg nm]
    rw [ea, planned_f]
    by_cases e : a = n
    · rw [if_pos e, if_neg (by simp)]; rfl
    · obtain ⟨h1, h2⟩ := (he nm).resolve_left e
      rw [if_neg e, if_pos h1, if_pos h2, if_neg (by simp)]; rfl
  | succ d ih =>
    intro a many i i0 a0 a5 hi hm hb he hd
    by_cases nm : may a n
    · have c := cnt_pos nm
      have rp := rounds_pos nm
      have rn := rounds_next nm
      have ce := cnt_end nm
      obtain ⟨m1, m2, m3⟩ := nm
      have nm : may a n := ⟨m1, m2, m3⟩
      refine Ev.step (fun k => ?_) (ih (a + cnt a n) many (i + 1) (by omega) (by omega) (by omega) (fun _ => ce.symm) (by omega) hb (fun q => ?_) (by omega))
      · simp only [speculumlaw24_PlanAll.l0]
        rw [if_pos (by omega), chunk_f, ask_f]; simp only [Option.bind_some]
        have ec : chunkV a n = (a, cnt a n) := by unfold chunkV; rw [if_pos nm]
        have ea : askV i a n = (i, 2, a, cnt a n, n, true) := by unfold askV; rw [if_pos nm]
        rw [ec, ea]; simp only [if_true]
        rw [if_neg (by omega), if_neg (by omega), w64 (by omega) (by omega), w64 (by omega) (by omega)]
        by_cases ip : i > 0
        · rw [if_pos ip, Int.tmod_eq_emod_of_nonneg a0, if_pos ((hi ip).resolve_right (by omega))]
        · rw [if_neg ip]
      · unfold may at q; omega
    · have r0 : roundsV a n = 0 := by unfold roundsV; rw [if_neg nm]
      refine Ev.step (f := fun _ => some true) (fun k => ?_) (Ev.now _)
      simp only [speculumlaw24_PlanAll.l0]
      rw [if_neg (by omega), ask_f]; simp only [Option.bind_some]
      have ea : askV 0 a n = (0, 0, 0, 0, 0, false) := by unfold askV; rw [if_neg nm]
      rw [ea, planned_f]
      by_cases e : a = n
      · rw [if_pos e, if_neg (by simp)]; rfl
      · obtain ⟨h1, h2⟩ := (he nm).resolve_left e
        rw [if_neg e, if_pos h1, if_pos h2, if_neg (by simp)]; rfl

theorem PlanAll : speculumlaw24_PlanAll.Pure := by
  intro a0 a1 b0 b1
  have c0 : 0 ≤ a0 ∧ a0 ≤ 65535 := by simp [Lit.wf, IntKind.min, IntKind.max, IntKind.signed, IntKind.bits] at b0; omega
  have c1 : 0 ≤ a1 ∧ a1 ≤ 65535 := by simp [Lit.wf, IntKind.min, IntKind.max, IntKind.signed, IntKind.bits] at b1; omega
  refine Ev.rounds (g := fun k => speculumlaw24_PlanAll.f k a0 a1) ?_
  obtain ⟨h, eh⟩ : ∃ h, h = a0 % 4096 := ⟨_, rfl⟩
  obtain ⟨n, en⟩ : ∃ n, n = a1 % 4097 := ⟨_, rfl⟩
  have lp := all_loop h n (by omega) 4096 h (roundsV h n) 0 (by omega) (by omega) (by omega) (by omega) (by omega)
    (by by_cases m : may h n
        · exact (rounds_pos m).2
        · unfold roundsV; rw [if_neg m]; omega)
    (fun q => .inr ⟨by unfold may at q; omega, by unfold roundsV; rw [if_neg q]⟩) (by omega)
  refine Ev.congr (fun k => ?_) lp
  unfold speculumlaw24_PlanAll.f
  rw [w64 (by omega) (by omega), w64 (by omega) (by omega), Int.tmod_eq_emod_of_nonneg (by omega), Int.tmod_eq_emod_of_nonneg (by omega), ← eh, ← en, rounds_f]
  rfl

end Go.Proofs.Ytpbjiaokfalncaa.Pure
