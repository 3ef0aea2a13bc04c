/- What is asked of the chapter's disk. -/
import Derived.Test.YtcmgeadakncgmaaDm4
namespace Go.Proofs.Ytcmgeadakncgmaa.Fn
open Go Go.Proofs Go.RowKit
set_option linter.unusedVariables false
set_option linter.unusedSimpArgs false
theorem WF.createD {d : Dk} (h : WF d) {n : Int} (hn : Kw.tget d.F n = none) : WF (createD d n).2 := by
  unfold Fn.createD orSink; split
  · exact h.tick.crash _
  · exact h.create hn
theorem WF.syncD {d : Dk} (h : WF d) : WF (syncD d).2 := by
  unfold Fn.syncD orSink; split
  · exact h.tick.crash _
  · exact h.sync
theorem WF.appendD {d : Dk} (h : WF d) {n : Int} {s0 s : List UInt8} (hg : Kw.tget d.F n = some s0) (hn : okI n) (hq : d.Q.length < 1000000) (ha : looseAll d.Q + s.length ≤ 1000000000) (hl : filesLen d.F + s.length ≤ 1000000000) : WF (appendD d n s0 s).2 := by
  have h2 := h.put hg hn hq ha hl
  unfold Fn.appendD orSink; split
  · exact h2.tick.crash _
  · exact h2.tick

set_option maxRecDepth 100000 in
set_option maxHeartbeats 4000000 in
theorem stored_c (w : World) : Calls Try.prog 6 #[] w fun e w' => e = .returned (.bool true) ∧ Below w.heap.size w w' := by
  have HB : Below w.heap.size w w := Below.refl _ _
  refine Kw.enter Try.func6 rfl Try.ntmps6 rfl rfl ?_
  refine Kw.WC_seq (fun K1 hK1 => ?_)
  refine Kw.WC_region [some 0] rfl ?_
  refine Kw.WL_v rfl rfl rfl (Kw.R_assign rfl) ?_
  refine Kw.WL_nil ?_
  refine hK1 _ _ ?_; clear hK1 K1
  refine Kw.WC_seq (fun K2 hK2 => ?_)
  refine Kw.WC_region [some 4, some 3, some 5, some 6, some 1, some 2] rfl ?_
  refine Kw.WL_call rfl rfl rfl rfl F.cl7 rfl (new_c 9 (by omega) w) ?_; rintro _ w3 ⟨⟨tb, rfl, R_dk⟩, bw3⟩
  obtain ⟨B, hBe⟩ : ∃ B, B = w.heap.size := ⟨_, rfl⟩; rw [← hBe] at R_dk; have hB0 : w.heap.size ≤ B := by rw [hBe]; exact HB.size
  have hB : B ≤ w3.heap.size := by rw [hBe]; exact bw3.size
  have hN : ∀ k, (fun _ : Nat => False) k → k < w3.heap.size := fun k hk => hk.elim; clear hBe
  replace HB := Kw.Below.then HB (Nat.le_refl _) bw3; clear bw3
  have W_dk : WF ⟨[], [], 9, false, 0, false, 0, 0⟩ := WF.nil rfl (by unfold okI; dsimp only; omega) (by decide)
  refine Kw.WL_v rfl rfl rfl (Kw.R_move rfl) ?_
  refine Kw.WL_v rfl rfl rfl (Kw.R_extract (v := .pointer (some ⟨tb, 0, none⟩)) rfl rfl) ?_
  refine Kw.WL_v rfl rfl rfl (Kw.R_extract (v := .int .i64 0) rfl rfl) ?_
  refine Kw.WL_v rfl rfl rfl (Kw.R_assign rfl) ?_
  refine Kw.WL_v rfl rfl rfl (Kw.R_assign rfl) ?_
  refine Kw.WL_nil ?_
  refine hK2 _ _ ?_; clear hK2 K2
  refine Kw.WC_seq (fun K4 hK4 => ?_)
  refine Kw.WC_seq (fun K5 hK5 => ?_)
  refine Kw.WC_region [some 7, some 8, some 9, some 10, some 11, some 12, some 13, some 14, some 15, some 16, some 17, some 18, some 19, some 20, some 21, some 22, some 23, some 24, some 25, some 26, some 27, some 28, some 29, some 30, some 31, some 32, some 33, some 34, some 35, some 36, some 37, some 38, some 39, some 40, some 41, some 42, some 43, some 44, some 45, some 46, some 47, some 48, some 49, some 50, some 51, some 52, some 53] rfl ?_
  refine Kw.WL_v rfl rfl rfl (Kw.R_move rfl) ?_
  refine Kw.WL_v rfl rfl rfl (Kw.R_nei (z := false) rfl rfl (decide_eq_true (by omega))) ?_
  refine Kw.WL_v rfl rfl rfl (Kw.R_move rfl) ?_
  refine Kw.WL_v rfl rfl rfl (Kw.R_move rfl) ?_
  have hq_ := create_c B (fun _ => False) tb ⟨[], [], 9, false, 0, false, 0, 0⟩ w3 hB hN R_dk rfl W_dk ⟨by decide, by decide⟩ 3 (by unfold okI; omega) (by decide) rfl (by decide)
  rw [show createD ⟨[], [], 9, false, 0, false, 0, 0⟩ 3 = (0, ⟨[(3, [])], [], 9, false, 0, false, 0, 0⟩) from rfl] at hq_
  refine Kw.WL_callc rfl rfl rfl rfl F.cl8 rfl hq_ ?_; rintro w6 ⟨R_2, hm⟩; clear hq_
  replace W_dk : WF ⟨[(3, [])], [], 9, false, 0, false, 0, 0⟩ := W_dk.createD (n := 3) rfl
  clear R_dk; have R_dk : DK w6 B (fun _ => False) tb ⟨[(3, [])], [], 9, false, 0, false, 0, 0⟩ := R_2; clear R_2
  replace HB := Kw.Mut.below HB (Nat.le_refl _) hm (fun k hk => Nat.le_trans hB0 hk.1)
  replace hN := fun k hk => Nat.lt_of_lt_of_le (hN k hk) hm.size; replace hB := Nat.le_trans hB hm.size; clear hm
  refine Kw.WL_v rfl rfl rfl (Kw.R_nei (z := false) rfl rfl (decide_eq_true (by omega))) ?_
  refine Kw.WL_v rfl rfl rfl (Kw.R_pickf rfl rfl) ?_
  refine Kw.WL_v rfl rfl rfl (Kw.R_move rfl) ?_
  refine Kw.WL_v rfl rfl rfl (Kw.R_move rfl) ?_
  have hq_ := create_c B (fun _ => False) tb ⟨[(3, [])], [], 9, false, 0, false, 0, 0⟩ w6 hB hN R_dk rfl W_dk ⟨by decide, by decide⟩ 5 (by unfold okI; omega) (by decide) rfl (by decide)
  rw [show createD ⟨[(3, [])], [], 9, false, 0, false, 0, 0⟩ 5 = (0, ⟨[(3, []), (5, [])], [], 9, false, 0, false, 0, 0⟩) from rfl] at hq_
  refine Kw.WL_callc rfl rfl rfl rfl F.cl8 rfl hq_ ?_; rintro w7 ⟨R_2, hm⟩; clear hq_
  replace W_dk : WF ⟨[(3, []), (5, [])], [], 9, false, 0, false, 0, 0⟩ := W_dk.createD (n := 5) rfl
  clear R_dk; have R_dk : DK w7 B (fun _ => False) tb ⟨[(3, []), (5, [])], [], 9, false, 0, false, 0, 0⟩ := R_2; clear R_2
  replace HB := Kw.Mut.below HB (Nat.le_refl _) hm (fun k hk => Nat.le_trans hB0 hk.1)
  replace hN := fun k hk => Nat.lt_of_lt_of_le (hN k hk) hm.size; replace hB := Nat.le_trans hB hm.size; clear hm
  refine Kw.WL_v rfl rfl rfl (Kw.R_nei (z := false) rfl rfl (decide_eq_true (by omega))) ?_
  refine Kw.WL_v rfl rfl rfl (Kw.R_pickf rfl rfl) ?_
  refine Kw.WL_v rfl rfl rfl (Kw.R_move rfl) ?_
  refine Kw.WL_v rfl rfl rfl (Kw.R_move rfl) ?_
  have hq_ := append_c B (fun _ => False) tb ⟨[(3, []), (5, [])], [], 9, false, 0, false, 0, 0⟩ w7 hB hN R_dk rfl W_dk ⟨by decide, by decide⟩ ⟨by decide, by decide⟩ 3 (by unfold okI; omega) [] rfl ⟨#[97, 98, 99]⟩ (by decide) (by decide) (by decide)
  rw [show appendD ⟨[(3, []), (5, [])], [], 9, false, 0, false, 0, 0⟩ 3 [] (⟨#[97, 98, 99]⟩ : ByteArray).data.toList = (0, ⟨[(3, [97, 98, 99]), (5, [])], [(3, 3)], 9, false, 0, false, 0, 0⟩) from rfl] at hq_
  refine Kw.WL_callc rfl rfl rfl rfl F.cl10 rfl hq_ ?_; rintro w8 ⟨R_2, hm⟩; clear hq_
  replace W_dk : WF ⟨[(3, [97, 98, 99]), (5, [])], [(3, 3)], 9, false, 0, false, 0, 0⟩ := W_dk.appendD (n := 3) (s := [97, 98, 99]) rfl (by unfold okI; omega) (by decide) (by decide) (by decide)
  clear R_dk; have R_dk : DK w8 B (fun _ => False) tb ⟨[(3, [97, 98, 99]), (5, [])], [(3, 3)], 9, false, 0, false, 0, 0⟩ := R_2; clear R_2
  replace HB := Kw.Mut.below HB (Nat.le_refl _) hm (fun k hk => Nat.le_trans hB0 hk.1)
  replace hN := fun k hk => Nat.lt_of_lt_of_le (hN k hk) hm.size; replace hB := Nat.le_trans hB hm.size; clear hm
  refine Kw.WL_v rfl rfl rfl (Kw.R_nei (z := false) rfl rfl (decide_eq_true (by omega))) ?_
  refine Kw.WL_v rfl rfl rfl (Kw.R_pickf rfl rfl) ?_
  refine Kw.WL_v rfl rfl rfl (Kw.R_move rfl) ?_
  refine Kw.WL_v rfl rfl rfl (Kw.R_move rfl) ?_
  have hq_ := sync_c B (fun _ => False) tb ⟨[(3, [97, 98, 99]), (5, [])], [(3, 3)], 9, false, 0, false, 0, 0⟩ w8 hB hN R_dk rfl W_dk ⟨by decide, by decide⟩
  rw [show syncD ⟨[(3, [97, 98, 99]), (5, [])], [(3, 3)], 9, false, 0, false, 0, 0⟩ = (0, ⟨[(3, [97, 98, 99]), (5, [])], [], 9, false, 0, false, 0, 0⟩) from rfl] at hq_
  refine Kw.WL_callc rfl rfl rfl rfl F.cl9 rfl hq_ ?_; rintro w9 ⟨R_2, hm⟩; clear hq_
  replace W_dk : WF ⟨[(3, [97, 98, 99]), (5, [])], [], 9, false, 0, false, 0, 0⟩ := W_dk.syncD
  clear R_dk; have R_dk : DK w9 B (fun _ => False) tb ⟨[(3, [97, 98, 99]), (5, [])], [], 9, false, 0, false, 0, 0⟩ := R_2; clear R_2
  replace HB := Kw.Mut.below HB (Nat.le_refl _) hm (fun k hk => Nat.le_trans hB0 hk.1)
  replace hN := fun k hk => Nat.lt_of_lt_of_le (hN k hk) hm.size; replace hB := Nat.le_trans hB hm.size; clear hm
  refine Kw.WL_v rfl rfl rfl (Kw.R_nei (z := false) rfl rfl (decide_eq_true (by omega))) ?_
  refine Kw.WL_v rfl rfl rfl (Kw.R_pickf rfl rfl) ?_
  refine Kw.WL_v rfl rfl rfl (Kw.R_move rfl) ?_
  refine Kw.WL_v rfl rfl rfl (Kw.R_move rfl) ?_
  have hq_ := append_c B (fun _ => False) tb ⟨[(3, [97, 98, 99]), (5, [])], [], 9, false, 0, false, 0, 0⟩ w9 hB hN R_dk rfl W_dk ⟨by decide, by decide⟩ ⟨by decide, by decide⟩ 5 (by unfold okI; omega) [] rfl ⟨#[120, 121]⟩ (by decide) (by decide) (by decide)
  rw [show appendD ⟨[(3, [97, 98, 99]), (5, [])], [], 9, false, 0, false, 0, 0⟩ 5 [] (⟨#[120, 121]⟩ : ByteArray).data.toList = (0, ⟨[(3, [97, 98, 99]), (5, [120, 121])], [(5, 2)], 9, false, 0, false, 0, 0⟩) from rfl] at hq_
  refine Kw.WL_callc rfl rfl rfl rfl F.cl10 rfl hq_ ?_; rintro w10 ⟨R_2, hm⟩; clear hq_
  replace W_dk : WF ⟨[(3, [97, 98, 99]), (5, [120, 121])], [(5, 2)], 9, false, 0, false, 0, 0⟩ := W_dk.appendD (n := 5) (s := [120, 121]) rfl (by unfold okI; omega) (by decide) (by decide) (by decide)
  clear R_dk; have R_dk : DK w10 B (fun _ => False) tb ⟨[(3, [97, 98, 99]), (5, [120, 121])], [(5, 2)], 9, false, 0, false, 0, 0⟩ := R_2; clear R_2
  replace HB := Kw.Mut.below HB (Nat.le_refl _) hm (fun k hk => Nat.le_trans hB0 hk.1)
  replace hN := fun k hk => Nat.lt_of_lt_of_le (hN k hk) hm.size; replace hB := Nat.le_trans hB hm.size; clear hm
  refine Kw.WL_v rfl rfl rfl (Kw.R_nei (z := false) rfl rfl (decide_eq_true (by omega))) ?_
  refine Kw.WL_v rfl rfl rfl (Kw.R_pickf rfl rfl) ?_
  refine Kw.WL_v rfl rfl rfl (Kw.R_move rfl) ?_
  refine Kw.WL_v rfl rfl rfl (Kw.R_move rfl) ?_
  have hq_ := append_c B (fun _ => False) tb ⟨[(3, [97, 98, 99]), (5, [120, 121])], [(5, 2)], 9, false, 0, false, 0, 0⟩ w10 hB hN R_dk rfl W_dk ⟨by decide, by decide⟩ ⟨by decide, by decide⟩ 3 (by unfold okI; omega) [97, 98, 99] rfl ⟨#[100, 101]⟩ (by decide) (by decide) (by decide)
  rw [show appendD ⟨[(3, [97, 98, 99]), (5, [120, 121])], [(5, 2)], 9, false, 0, false, 0, 0⟩ 3 [97, 98, 99] (⟨#[100, 101]⟩ : ByteArray).data.toList = (0, ⟨[(3, [97, 98, 99, 100, 101]), (5, [120, 121])], [(5, 2), (3, 2)], 9, false, 0, false, 0, 0⟩) from rfl] at hq_
  refine Kw.WL_callc rfl rfl rfl rfl F.cl10 rfl hq_ ?_; rintro w11 ⟨R_2, hm⟩; clear hq_
  replace W_dk : WF ⟨[(3, [97, 98, 99, 100, 101]), (5, [120, 121])], [(5, 2), (3, 2)], 9, false, 0, false, 0, 0⟩ := W_dk.appendD (n := 3) (s := [100, 101]) rfl (by unfold okI; omega) (by decide) (by decide) (by decide)
  clear R_dk; have R_dk : DK w11 B (fun _ => False) tb ⟨[(3, [97, 98, 99, 100, 101]), (5, [120, 121])], [(5, 2), (3, 2)], 9, false, 0, false, 0, 0⟩ := R_2; clear R_2
  replace HB := Kw.Mut.below HB (Nat.le_refl _) hm (fun k hk => Nat.le_trans hB0 hk.1)
  replace hN := fun k hk => Nat.lt_of_lt_of_le (hN k hk) hm.size; replace hB := Nat.le_trans hB hm.size; clear hm
  refine Kw.WL_v rfl rfl rfl (Kw.R_nei (z := false) rfl rfl (decide_eq_true (by omega))) ?_
  refine Kw.WL_v rfl rfl rfl (Kw.R_pickf rfl rfl) ?_
  refine Kw.WL_v rfl rfl rfl (Kw.R_move rfl) ?_
  refine Kw.WL_v rfl rfl rfl (Kw.R_move rfl) ?_
  have hq_ := append_full B (fun _ => False) tb ⟨[(3, [97, 98, 99, 100, 101]), (5, [120, 121])], [(5, 2), (3, 2)], 9, false, 0, false, 0, 0⟩ w11 hB hN R_dk rfl W_dk ⟨by decide, by decide⟩ 5 (by unfold okI; omega) [120, 121] rfl ⟨#[122, 122, 122]⟩ (by decide)
  refine Kw.WL_callc rfl rfl rfl rfl F.cl10 rfl hq_ ?_; rintro w12 hm; clear hq_
  replace R_dk := R_dk.keep hm (fun k hk => hk.elim)
  replace HB := Kw.Mut.below HB (Nat.le_refl _) hm (fun k hk => hk.elim)
  replace hN := fun k hk => Nat.lt_of_lt_of_le (hN k hk) hm.size; replace hB := Nat.le_trans hB hm.size; clear hm
  refine Kw.WL_v rfl rfl rfl (Kw.R_nei (z := false) rfl rfl (decide_eq_true (by omega))) ?_
  refine Kw.WL_v rfl rfl rfl (Kw.R_pickf rfl rfl) ?_
  refine Kw.WL_v rfl rfl rfl (Kw.R_move rfl) ?_
  refine Kw.WL_v rfl rfl rfl (Kw.R_move rfl) ?_
  have hq_ := loose_c B (fun _ => False) tb ⟨[(3, [97, 98, 99, 100, 101]), (5, [120, 121])], [(5, 2), (3, 2)], 9, false, 0, false, 0, 0⟩ w12 hB hN R_dk rfl W_dk
  rw [show ((looseAll (Dk.Q ⟨[(3, [97, 98, 99, 100, 101]), (5, [120, 121])], [(5, 2), (3, 2)], 9, false, 0, false, 0, 0⟩) : Nat) : Int) = 4 from rfl] at hq_
  refine Kw.WL_callc rfl rfl rfl rfl F.cl14 rfl hq_ ?_; rintro w13 hm; clear hq_
  replace R_dk := R_dk.keep hm (fun k hk => hk.elim)
  replace HB := Kw.Mut.below HB (Nat.le_refl _) hm (fun k hk => hk.elim)
  replace hN := fun k hk => Nat.lt_of_lt_of_le (hN k hk) hm.size; replace hB := Nat.le_trans hB hm.size; clear hm
  refine Kw.WL_v rfl rfl rfl (Kw.R_nei (z := false) rfl rfl (decide_eq_true (by omega))) ?_
  refine Kw.WL_v rfl rfl rfl (Kw.R_pickf rfl rfl) ?_
  refine Kw.WL_v rfl rfl rfl (Kw.R_move rfl) ?_
  refine Kw.WL_v rfl rfl rfl (Kw.R_move rfl) ?_
  have hq_ := free_c B (fun _ => False) tb ⟨[(3, [97, 98, 99, 100, 101]), (5, [120, 121])], [(5, 2), (3, 2)], 9, false, 0, false, 0, 0⟩ w13 hB hN R_dk rfl W_dk ⟨by decide, by decide⟩
  rw [show freeD ⟨[(3, [97, 98, 99, 100, 101]), (5, [120, 121])], [(5, 2), (3, 2)], 9, false, 0, false, 0, 0⟩ = 2 from rfl] at hq_
  refine Kw.WL_callc rfl rfl rfl rfl F.cl23 rfl hq_ ?_; rintro w14 hm; clear hq_
  replace R_dk := R_dk.keep hm (fun k hk => hk.elim)
  replace HB := Kw.Mut.below HB (Nat.le_refl _) hm (fun k hk => hk.elim)
  replace hN := fun k hk => Nat.lt_of_lt_of_le (hN k hk) hm.size; replace hB := Nat.le_trans hB hm.size; clear hm
  refine Kw.WL_v rfl rfl rfl (Kw.R_nei (z := false) rfl rfl (decide_eq_true (by omega))) ?_
  refine Kw.WL_v rfl rfl rfl (Kw.R_pickf rfl rfl) ?_
  refine Kw.WL_nil ?_
  refine hK5 _ _ ?_; clear hK5 K5
  refine Kw.WC_sub (l' := [(1, .pointer (some ⟨tb, 0, none⟩)), (53, .bool false)]) (Kw.Sub.cons rfl (Kw.Sub.cons rfl Kw.Sub.nil)) ?_
  refine Kw.WC_false rfl ?_
  refine Kw.WC_skip ?_
  refine hK4 _ _ ?_; clear hK4 K4
  refine Kw.WC_seq (fun K15 hK15 => ?_)
  refine Kw.WC_seq (fun K16 hK16 => ?_)
  refine Kw.WC_region [some 54, some 55, some 56, some 57, some 58, some 59, some 60, some 61, some 62, some 63, some 64, some 65, some 66, some 67, some 68, some 69, some 70, some 71] rfl ?_
  refine Kw.WL_v rfl rfl rfl (Kw.R_move rfl) ?_
  have hq_ := crash_c B (fun _ => False) tb ⟨[(3, [97, 98, 99, 100, 101]), (5, [120, 121])], [(5, 2), (3, 2)], 9, false, 0, false, 0, 0⟩ W_dk rfl w14 hB hN R_dk 3 (by unfold okI; omega)
  rw [show crashD ⟨[(3, [97, 98, 99, 100, 101]), (5, [120, 121])], [(5, 2), (3, 2)], 9, false, 0, false, 0, 0⟩ 3 = ⟨[(3, [97, 98, 99, 100]), (5, [120, 121])], [], 9, true, 0, false, 0, 0⟩ from rfl] at hq_
  refine Kw.WL_callc rfl rfl rfl rfl F.cl11 rfl hq_ ?_; rintro w17 ⟨R_2, hm⟩; clear hq_
  replace W_dk : WF ⟨[(3, [97, 98, 99, 100]), (5, [120, 121])], [], 9, true, 0, false, 0, 0⟩ := W_dk.crash 3
  clear R_dk; have R_dk : DK w17 B (fun _ => False) tb ⟨[(3, [97, 98, 99, 100]), (5, [120, 121])], [], 9, true, 0, false, 0, 0⟩ := R_2; clear R_2
  replace HB := Kw.Mut.below HB (Nat.le_refl _) hm (fun k hk => Nat.le_trans hB0 hk.1)
  replace hN := fun k hk => Nat.lt_of_lt_of_le (hN k hk) hm.size; replace hB := Nat.le_trans hB hm.size; clear hm
  refine Kw.WL_v rfl rfl rfl (Kw.R_nei (z := false) rfl rfl (decide_eq_true (by omega))) ?_
  refine Kw.WL_v rfl rfl rfl (Kw.R_move rfl) ?_
  refine Kw.WL_v rfl rfl rfl (Kw.R_move rfl) ?_
  have hq_ := start_c B (fun _ => False) tb ⟨[(3, [97, 98, 99, 100]), (5, [120, 121])], [], 9, true, 0, false, 0, 0⟩ w17 hB hN R_dk rfl ⟨by decide, by decide⟩
  rw [show startD ⟨[(3, [97, 98, 99, 100]), (5, [120, 121])], [], 9, true, 0, false, 0, 0⟩ = ⟨[(3, [97, 98, 99, 100]), (5, [120, 121])], [], 9, false, 1, false, 0, 0⟩ from rfl] at hq_
  refine Kw.WL_callc rfl rfl rfl rfl F.cl13 rfl hq_ ?_; rintro w18 ⟨R_2, hm⟩; clear hq_
  replace W_dk : WF ⟨[(3, [97, 98, 99, 100]), (5, [120, 121])], [], 9, false, 1, false, 0, 0⟩ := W_dk.start
  clear R_dk; have R_dk : DK w18 B (fun _ => False) tb ⟨[(3, [97, 98, 99, 100]), (5, [120, 121])], [], 9, false, 1, false, 0, 0⟩ := R_2; clear R_2
  replace HB := Kw.Mut.below HB (Nat.le_refl _) hm (fun k hk => Nat.le_trans hB0 hk.1)
  replace hN := fun k hk => Nat.lt_of_lt_of_le (hN k hk) hm.size; replace hB := Nat.le_trans hB hm.size; clear hm
  refine Kw.WL_v rfl rfl rfl (Kw.R_nei (z := false) rfl rfl (decide_eq_true (by omega))) ?_
  refine Kw.WL_v rfl rfl rfl (Kw.R_pickf rfl rfl) ?_
  refine Kw.WL_v rfl rfl rfl (Kw.R_move rfl) ?_
  refine Kw.WL_v rfl rfl rfl (Kw.R_move rfl) ?_
  have hq_ := reads_c B (fun _ => False) tb ⟨[(3, [97, 98, 99, 100]), (5, [120, 121])], [], 9, false, 1, false, 0, 0⟩ w18 hB hN R_dk rfl W_dk 5 (by unfold okI; omega) ⟨#[120, 121]⟩ rfl
  refine Kw.WL_callc rfl rfl rfl rfl F.cl15 rfl (hq_) ?_; intro ww hww; rw [hww]; clear hww ww
  clear hq_
  refine Kw.WL_v rfl rfl rfl (Kw.R_not rfl rfl) ?_
  refine Kw.WL_v rfl rfl rfl (Kw.R_pickf rfl rfl) ?_
  refine Kw.WL_v rfl rfl rfl (Kw.R_move rfl) ?_
  refine Kw.WL_v rfl rfl rfl (Kw.R_move rfl) ?_
  have hq_ := reads_c B (fun _ => False) tb ⟨[(3, [97, 98, 99, 100]), (5, [120, 121])], [], 9, false, 1, false, 0, 0⟩ w18 hB hN R_dk rfl W_dk 3 (by unfold okI; omega) ⟨#[97, 98, 99, 100]⟩ rfl
  refine Kw.WL_callc rfl rfl rfl rfl F.cl15 rfl (hq_) ?_; intro ww hww; rw [hww]; clear hww ww
  clear hq_
  refine Kw.WL_v rfl rfl rfl (Kw.R_not rfl rfl) ?_
  refine Kw.WL_v rfl rfl rfl (Kw.R_pickf rfl rfl) ?_
  refine Kw.WL_nil ?_
  refine hK16 _ _ ?_; clear hK16 K16
  refine Kw.WC_sub (l' := [(1, .pointer (some ⟨tb, 0, none⟩)), (71, .bool false)]) (Kw.Sub.cons rfl (Kw.Sub.cons rfl Kw.Sub.nil)) ?_
  refine Kw.WC_false rfl ?_
  refine Kw.WC_skip ?_
  refine hK15 _ _ ?_; clear hK15 K15
  refine Kw.WC_seq (fun K21 hK21 => ?_)
  refine Kw.WC_region [some 72, some 73, some 74, some 75, some 76, some 77, some 78, some 79, some 80, some 81, some 82, some 83, some 84, some 85, some 86, some 87, some 88, some 89, some 90, some 91, some 92, some 93, some 0] rfl ?_
  refine Kw.WL_v rfl rfl rfl (Kw.R_move rfl) ?_
  have hq_ := fail_c B (fun _ => False) tb ⟨[(3, [97, 98, 99, 100]), (5, [120, 121])], [], 9, false, 1, false, 0, 0⟩ w18 hB hN R_dk rfl 0 1 (by decide)
  rw [show failD ⟨[(3, [97, 98, 99, 100]), (5, [120, 121])], [], 9, false, 1, false, 0, 0⟩ 0 1 = ⟨[(3, [97, 98, 99, 100]), (5, [120, 121])], [], 9, false, 1, true, 0, 1⟩ from rfl] at hq_
  refine Kw.WL_callc rfl rfl rfl rfl F.cl16 rfl hq_ ?_; rintro w22 ⟨R_2, hm⟩; clear hq_
  replace W_dk : WF ⟨[(3, [97, 98, 99, 100]), (5, [120, 121])], [], 9, false, 1, true, 0, 1⟩ := W_dk.fail 0 1 (by unfold okI; omega)
  clear R_dk; have R_dk : DK w22 B (fun _ => False) tb ⟨[(3, [97, 98, 99, 100]), (5, [120, 121])], [], 9, false, 1, true, 0, 1⟩ := R_2; clear R_2
  replace HB := Kw.Mut.below HB (Nat.le_refl _) hm (fun k hk => Nat.le_trans hB0 hk.1)
  replace hN := fun k hk => Nat.lt_of_lt_of_le (hN k hk) hm.size; replace hB := Nat.le_trans hB hm.size; clear hm
  refine Kw.WL_v rfl rfl rfl (Kw.R_eqi (z := true) rfl rfl (decide_eq_true (by omega))) ?_
  refine Kw.WL_v rfl rfl rfl (Kw.R_move rfl) ?_
  refine Kw.WL_v rfl rfl rfl (Kw.R_move rfl) ?_
  have hq_ := append_c B (fun _ => False) tb ⟨[(3, [97, 98, 99, 100]), (5, [120, 121])], [], 9, false, 1, true, 0, 1⟩ w22 hB hN R_dk rfl W_dk ⟨by decide, by decide⟩ ⟨by decide, by decide⟩ 3 (by unfold okI; omega) [97, 98, 99, 100] rfl ⟨#[116, 116]⟩ (by decide) (by decide) (by decide)
  rw [show appendD ⟨[(3, [97, 98, 99, 100]), (5, [120, 121])], [], 9, false, 1, true, 0, 1⟩ 3 [97, 98, 99, 100] (⟨#[116, 116]⟩ : ByteArray).data.toList = (61, ⟨[(3, [97, 98, 99, 100, 116]), (5, [120, 121])], [], 9, true, 1, false, (-1), 1⟩) from rfl] at hq_
  refine Kw.WL_callc rfl rfl rfl rfl F.cl10 rfl hq_ ?_; rintro w23 ⟨R_2, hm⟩; clear hq_
  replace W_dk : WF ⟨[(3, [97, 98, 99, 100, 116]), (5, [120, 121])], [], 9, true, 1, false, (-1), 1⟩ := W_dk.appendD (n := 3) (s := [116, 116]) rfl (by unfold okI; omega) (by decide) (by decide) (by decide)
  clear R_dk; have R_dk : DK w23 B (fun _ => False) tb ⟨[(3, [97, 98, 99, 100, 116]), (5, [120, 121])], [], 9, true, 1, false, (-1), 1⟩ := R_2; clear R_2
  replace HB := Kw.Mut.below HB (Nat.le_refl _) hm (fun k hk => Nat.le_trans hB0 hk.1)
  replace hN := fun k hk => Nat.lt_of_lt_of_le (hN k hk) hm.size; replace hB := Nat.le_trans hB hm.size; clear hm
  refine Kw.WL_v rfl rfl rfl (Kw.R_eqi (z := true) rfl rfl (decide_eq_true (by omega))) ?_
  refine Kw.WL_v rfl rfl rfl (Kw.R_pickt rfl rfl) ?_
  refine Kw.WL_v rfl rfl rfl (Kw.R_move rfl) ?_
  refine Kw.WL_v rfl rfl rfl (Kw.R_move rfl) ?_
  have hq_ := down_c B (fun _ => False) tb ⟨[(3, [97, 98, 99, 100, 116]), (5, [120, 121])], [], 9, true, 1, false, (-1), 1⟩ w23 hB hN R_dk rfl
  refine Kw.WL_callc rfl rfl rfl rfl F.cl12 rfl (hq_) ?_; intro ww hww; rw [hww]; clear hww ww
  clear hq_
  refine Kw.WL_v rfl rfl rfl (Kw.R_not rfl rfl) ?_
  refine Kw.WL_v rfl rfl rfl (Kw.R_pickt rfl rfl) ?_
  refine Kw.WL_v rfl rfl rfl (Kw.R_move rfl) ?_
  refine Kw.WL_v rfl rfl rfl (Kw.R_move rfl) ?_
  have hq_ := start_c B (fun _ => False) tb ⟨[(3, [97, 98, 99, 100, 116]), (5, [120, 121])], [], 9, true, 1, false, (-1), 1⟩ w23 hB hN R_dk rfl ⟨by decide, by decide⟩
  rw [show startD ⟨[(3, [97, 98, 99, 100, 116]), (5, [120, 121])], [], 9, true, 1, false, (-1), 1⟩ = ⟨[(3, [97, 98, 99, 100, 116]), (5, [120, 121])], [], 9, false, 2, false, (-1), 1⟩ from rfl] at hq_
  refine Kw.WL_callc rfl rfl rfl rfl F.cl13 rfl hq_ ?_; rintro w25 ⟨R_2, hm⟩; clear hq_
  replace W_dk : WF ⟨[(3, [97, 98, 99, 100, 116]), (5, [120, 121])], [], 9, false, 2, false, (-1), 1⟩ := W_dk.start
  clear R_dk; have R_dk : DK w25 B (fun _ => False) tb ⟨[(3, [97, 98, 99, 100, 116]), (5, [120, 121])], [], 9, false, 2, false, (-1), 1⟩ := R_2; clear R_2
  replace HB := Kw.Mut.below HB (Nat.le_refl _) hm (fun k hk => Nat.le_trans hB0 hk.1)
  replace hN := fun k hk => Nat.lt_of_lt_of_le (hN k hk) hm.size; replace hB := Nat.le_trans hB hm.size; clear hm
  refine Kw.WL_v rfl rfl rfl (Kw.R_eqi (z := true) rfl rfl (decide_eq_true (by omega))) ?_
  refine Kw.WL_v rfl rfl rfl (Kw.R_pickt rfl rfl) ?_
  refine Kw.WL_v rfl rfl rfl (Kw.R_move rfl) ?_
  refine Kw.WL_v rfl rfl rfl (Kw.R_move rfl) ?_
  have hq_ := reads_c B (fun _ => False) tb ⟨[(3, [97, 98, 99, 100, 116]), (5, [120, 121])], [], 9, false, 2, false, (-1), 1⟩ w25 hB hN R_dk rfl W_dk 3 (by unfold okI; omega) ⟨#[97, 98, 99, 100, 116]⟩ rfl
  refine Kw.WL_callc rfl rfl rfl rfl F.cl15 rfl (hq_) ?_; intro ww hww; rw [hww]; clear hww ww
  clear hq_
  refine Kw.WL_v rfl rfl rfl (Kw.R_pickt rfl rfl) ?_
  refine Kw.WL_v rfl rfl rfl (Kw.R_assign rfl) ?_
  refine Kw.WL_nil ?_
  refine hK21 _ _ ?_; clear hK21 K21
  refine Kw.WC_sub (l' := [(0, .bool true)]) (Kw.Sub.cons rfl Kw.Sub.nil) ?_
  refine Kw.WC_ret ?_
  exact Kw.post_ret1 rfl rfl ⟨rfl, HB⟩
end Go.Proofs.Ytcmgeadakncgmaa.Fn
