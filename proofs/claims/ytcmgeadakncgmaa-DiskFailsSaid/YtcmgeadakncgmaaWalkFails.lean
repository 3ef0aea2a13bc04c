/- DiskFails answers true. -/
import Derived.Test.YtcmgeadakncgmaaDf
import Derived.Test.YtcmgeadakncgmaaDm6
namespace Go.Proofs.Ytcmgeadakncgmaa.Fn
open Go Go.Proofs Go.RowKit
set_option linter.unusedVariables false
set_option linter.unusedSimpArgs false
theorem bytes_extract' (s : ByteArray) (m : Nat) : (s.extract 0 m).data.toList = s.data.toList.take m := by simp [List.extract_eq_take_drop]

set_option maxRecDepth 100000 in
set_option maxHeartbeats 4000000 in
theorem DiskFails_c (n wh kp : Int) (hn : 0 ≤ n ∧ n ≤ 255) (hw : 0 ≤ wh ∧ wh ≤ 255) (hp : 0 ≤ kp ∧ kp ≤ 255) (w : World) : Calls Try.prog 4 #[.int .u8 n, .int .u8 wh, .int .u8 kp] w fun e w' => e = .returned (.bool true) ∧ Below w.heap.size w w' := by
  have HB : Below w.heap.size w w := Below.refl _ _
  have hkp : okI kp := by unfold okI; omega
  refine Kw.enter Try.func4 rfl Try.ntmps4 rfl rfl ?_
  refine Kw.WC_seq (fun K1 hK1 => ?_)
  refine Kw.WC_region [some 6] rfl ?_
  refine Kw.WL_v rfl rfl rfl (Kw.R_assign rfl) ?_
  refine Kw.WL_nil ?_
  refine hK1 _ _ ?_; clear hK1 K1
  refine Kw.WC_seq (fun K2 hK2 => ?_)
  refine Kw.WC_region [some 17, some 16, some 18, some 19, some 7, some 8] rfl ?_
  refine Kw.WL_call rfl rfl rfl rfl F.cl7 rfl (new_c 3000 (by omega) w) ?_; rintro _ w3 ⟨⟨tb, rfl, R_dk⟩, bw3⟩
  obtain ⟨B, hBe⟩ : ∃ B, B = w.heap.size := ⟨_, rfl⟩; rw [← hBe] at R_dk; have hB0 : w.heap.size ≤ B := by rw [hBe]; exact HB.size
  have hB : B ≤ w3.heap.size := by rw [hBe]; exact bw3.size
  have hN : ∀ k, (fun _ : Nat => False) k → k < w3.heap.size := fun k hk => hk.elim; clear hBe
  replace HB := Kw.Below.then HB (Nat.le_refl _) bw3; clear bw3
  have W_dk : WF ⟨[], [], 3000, false, 0, false, 0, 0⟩ := WF.nil rfl (by unfold okI; dsimp only; omega) (by decide)
  refine Kw.WL_v rfl rfl rfl (Kw.R_move rfl) ?_
  refine Kw.WL_v rfl rfl rfl (Kw.R_extract (v := .pointer (some ⟨tb, 0, none⟩)) rfl rfl) ?_
  refine Kw.WL_v rfl rfl rfl (Kw.R_extract (v := .int .i64 0) rfl rfl) ?_
  refine Kw.WL_v rfl rfl rfl (Kw.R_assign rfl) ?_
  refine Kw.WL_v rfl rfl rfl (Kw.R_assign rfl) ?_
  refine Kw.WL_nil ?_
  refine hK2 _ _ ?_; clear hK2 K2
  refine Kw.WC_seq (fun K4 hK4 => ?_)
  refine Kw.WC_seq (fun K5 hK5 => ?_)
  refine Kw.WC_region [some 20, some 21, some 22, some 23, some 24, some 25, some 26, some 27, some 28, some 29, some 30, some 31, some 32, some 33, some 34, some 35, some 36] rfl ?_
  refine Kw.WL_v rfl rfl rfl (Kw.R_move rfl) ?_
  refine Kw.WL_v rfl rfl rfl (Kw.R_nei (z := false) rfl rfl (decide_eq_true (by omega))) ?_
  refine Kw.WL_v rfl rfl rfl (Kw.R_move rfl) ?_
  refine Kw.WL_v rfl rfl rfl (Kw.R_move rfl) ?_
  have hq_ := create_c B (fun _ => False) tb ⟨[], [], 3000, false, 0, false, 0, 0⟩ w3 hB hN R_dk rfl W_dk ⟨by decide, by decide⟩ 1 (by unfold okI; omega) (by decide) rfl (by decide)
  rw [show createD ⟨[], [], 3000, false, 0, false, 0, 0⟩ 1 = (0, ⟨[(1, [])], [], 3000, false, 0, false, 0, 0⟩) from rfl] at hq_
  refine Kw.WL_callc rfl rfl rfl rfl F.cl8 rfl hq_ ?_; rintro w6 ⟨R_2, hm⟩; clear hq_
  replace W_dk : WF ⟨[(1, [])], [], 3000, false, 0, false, 0, 0⟩ := W_dk.createD (n := 1) rfl
  clear R_dk; have R_dk : DK w6 B (fun _ => False) tb ⟨[(1, [])], [], 3000, false, 0, false, 0, 0⟩ := R_2; clear R_2
  replace HB := Kw.Mut.below HB (Nat.le_refl _) hm (fun k hk => Nat.le_trans hB0 hk.1)
  replace hN := fun k hk => Nat.lt_of_lt_of_le (hN k hk) hm.size; replace hB := Nat.le_trans hB hm.size; clear hm
  refine Kw.WL_v rfl rfl rfl (Kw.R_nei (z := false) rfl rfl (decide_eq_true (by omega))) ?_
  refine Kw.WL_v rfl rfl rfl (Kw.R_pickf rfl rfl) ?_
  refine Kw.WL_v rfl rfl rfl (Kw.R_move rfl) ?_
  refine Kw.WL_v rfl rfl rfl (Kw.R_move rfl) ?_
  have hq_ := append_c B (fun _ => False) tb ⟨[(1, [])], [], 3000, false, 0, false, 0, 0⟩ w6 hB hN R_dk rfl W_dk ⟨by decide, by decide⟩ ⟨by decide, by decide⟩ 1 (by unfold okI; omega) [] rfl ⟨#[97, 98, 99]⟩ (by decide) (by decide) (by decide)
  rw [show appendD ⟨[(1, [])], [], 3000, false, 0, false, 0, 0⟩ 1 [] (⟨#[97, 98, 99]⟩ : ByteArray).data.toList = (0, ⟨[(1, [97, 98, 99])], [(1, 3)], 3000, false, 0, false, 0, 0⟩) from rfl] at hq_
  refine Kw.WL_callc rfl rfl rfl rfl F.cl10 rfl hq_ ?_; rintro w7 ⟨R_2, hm⟩; clear hq_
  replace W_dk : WF ⟨[(1, [97, 98, 99])], [(1, 3)], 3000, false, 0, false, 0, 0⟩ := W_dk.appendD (n := 1) (s := [97, 98, 99]) rfl (by unfold okI; omega) (by decide) (by decide) (by decide)
  clear R_dk; have R_dk : DK w7 B (fun _ => False) tb ⟨[(1, [97, 98, 99])], [(1, 3)], 3000, false, 0, false, 0, 0⟩ := R_2; clear R_2
  replace HB := Kw.Mut.below HB (Nat.le_refl _) hm (fun k hk => Nat.le_trans hB0 hk.1)
  replace hN := fun k hk => Nat.lt_of_lt_of_le (hN k hk) hm.size; replace hB := Nat.le_trans hB hm.size; clear hm
  refine Kw.WL_v rfl rfl rfl (Kw.R_nei (z := false) rfl rfl (decide_eq_true (by omega))) ?_
  refine Kw.WL_v rfl rfl rfl (Kw.R_pickf rfl rfl) ?_
  refine Kw.WL_v rfl rfl rfl (Kw.R_move rfl) ?_
  refine Kw.WL_v rfl rfl rfl (Kw.R_move rfl) ?_
  have hq_ := sync_c B (fun _ => False) tb ⟨[(1, [97, 98, 99])], [(1, 3)], 3000, false, 0, false, 0, 0⟩ w7 hB hN R_dk rfl W_dk ⟨by decide, by decide⟩
  rw [show syncD ⟨[(1, [97, 98, 99])], [(1, 3)], 3000, false, 0, false, 0, 0⟩ = (0, ⟨[(1, [97, 98, 99])], [], 3000, false, 0, false, 0, 0⟩) from rfl] at hq_
  refine Kw.WL_callc rfl rfl rfl rfl F.cl9 rfl hq_ ?_; rintro w8 ⟨R_2, hm⟩; clear hq_
  replace W_dk : WF ⟨[(1, [97, 98, 99])], [], 3000, false, 0, false, 0, 0⟩ := W_dk.syncD
  clear R_dk; have R_dk : DK w8 B (fun _ => False) tb ⟨[(1, [97, 98, 99])], [], 3000, false, 0, false, 0, 0⟩ := R_2; clear R_2
  replace HB := Kw.Mut.below HB (Nat.le_refl _) hm (fun k hk => Nat.le_trans hB0 hk.1)
  replace hN := fun k hk => Nat.lt_of_lt_of_le (hN k hk) hm.size; replace hB := Nat.le_trans hB hm.size; clear hm
  refine Kw.WL_v rfl rfl rfl (Kw.R_nei (z := false) rfl rfl (decide_eq_true (by omega))) ?_
  refine Kw.WL_v rfl rfl rfl (Kw.R_pickf rfl rfl) ?_
  refine Kw.WL_nil ?_
  refine hK5 _ _ ?_; clear hK5 K5
  refine Kw.WC_sub (l' := [(0, .int .u8 n), (1, .int .u8 wh), (2, .int .u8 kp), (7, .pointer (some ⟨tb, 0, none⟩)), (36, .bool false)]) (Kw.Sub.cons rfl (Kw.Sub.cons rfl (Kw.Sub.cons rfl (Kw.Sub.cons rfl (Kw.Sub.cons rfl Kw.Sub.nil))))) ?_
  refine Kw.WC_false rfl ?_
  refine Kw.WC_skip ?_
  refine hK4 _ _ ?_; clear hK4 K4
  refine Kw.WC_seq (fun K9 hK9 => ?_)
  refine Kw.WC_region [some 37, some 38, some 39, some 9] rfl ?_
  refine Kw.WL_v rfl rfl rfl (Kw.R_move rfl) ?_
  refine Kw.WL_v rfl rfl rfl (Kw.R_conv (c := n) Try.underlying5 Try.underlying3 rfl (Kw.wrap_i64 (by omega))) ?_
  obtain ⟨k, hk⟩ : ∃ x : Nat, (x : Int) = n % 20 := ⟨(n % 20).toNat, by omega⟩
  have hk20 : k < 20 := by omega
  refine Kw.WL_v rfl rfl rfl (Kw.R_rem (c := (k : Int)) rfl rfl (by omega) (by rw [Kw.tmod_pos (by omega)]; exact hk.symm)) ?_
  refine Kw.WL_v rfl rfl rfl (Kw.R_assign rfl) ?_
  refine Kw.WL_nil ?_
  refine hK9 _ _ ?_; clear hK9 K9
  refine Kw.WC_seq (fun K10 hK10 => ?_)
  refine Kw.WC_seq (fun K11 hK11 => ?_)
  refine Kw.WC_region [some 40, some 41, some 42, some 43, some 44, some 45] rfl ?_
  refine Kw.WL_v rfl rfl rfl (Kw.R_move rfl) ?_
  refine Kw.WL_v rfl rfl rfl (Kw.R_move rfl) ?_
  refine Kw.WL_v rfl rfl rfl (Kw.R_move rfl) ?_
  refine Kw.WL_v rfl rfl rfl (Kw.R_conv (c := kp) Try.underlying5 Try.underlying3 rfl (Kw.wrap_i64 (by omega))) ?_
  have hq_ := fail_c B (fun _ => False) tb ⟨[(1, [97, 98, 99])], [], 3000, false, 0, false, 0, 0⟩ w8 hB hN R_dk rfl (k : Int) kp (by omega)
  rw [show failD ⟨[(1, [97, 98, 99])], [], 3000, false, 0, false, 0, 0⟩ (k : Int) kp = (faD ⟨#[97, 98, 99]⟩ [] (k : Int) kp) from rfl] at hq_
  refine Kw.WL_callc rfl rfl rfl rfl F.cl16 rfl hq_ ?_; rintro w12 ⟨R_2, hm⟩; clear hq_
  clear R_dk; have R_dk : DK w12 B (fun _ => False) tb (faD ⟨#[97, 98, 99]⟩ [] (k : Int) kp) := R_2; clear R_2
  replace HB := Kw.Mut.below HB (Nat.le_refl _) hm (fun k hk => Nat.le_trans hB0 hk.1)
  replace hN := fun k hk => Nat.lt_of_lt_of_le (hN k hk) hm.size; replace hB := Nat.le_trans hB hm.size; clear hm
  refine Kw.WL_v rfl rfl rfl (Kw.R_nei (z := false) rfl rfl (decide_eq_true (by omega))) ?_
  refine Kw.WL_nil ?_
  refine hK11 _ _ ?_; clear hK11 K11
  refine Kw.WC_sub (l' := [(1, .int .u8 wh), (2, .int .u8 kp), (7, .pointer (some ⟨tb, 0, none⟩)), (9, .int .i64 (k : Int)), (45, .bool false)]) (Kw.Sub.cons rfl (Kw.Sub.cons rfl (Kw.Sub.cons rfl (Kw.Sub.cons rfl (Kw.Sub.cons rfl Kw.Sub.nil))))) ?_
  refine Kw.WC_false rfl ?_
  refine Kw.WC_skip ?_
  refine hK10 _ _ ?_; clear hK10 K10
  refine Kw.WC_seq (fun K13 hK13 => ?_)
  refine Kw.WC_region [some 10, some 11] rfl ?_
  refine Kw.WL_v rfl rfl rfl (Kw.R_assign rfl) ?_
  refine Kw.WL_v rfl rfl rfl (Kw.R_assign rfl) ?_
  refine Kw.WL_nil ?_
  refine hK13 _ _ ?_; clear hK13 K13
  refine Kw.WC_seq (fun K14 hK14 => ?_)
  refine Kw.WC_seq (fun K15 hK15 => ?_)
  refine Kw.WC_region [some 12] rfl ?_
  refine Kw.WL_v rfl rfl rfl (Kw.R_assign rfl) ?_
  refine Kw.WL_nil ?_
  refine hK15 _ _ ?_; clear hK15 K15
  refine Kw.WC_block ?_
  refine Kw.WC_loop (ι := Nat × ByteArray × Nat × List (Int × Nat)) (fun (q : Nat × ByteArray × Nat × List (Int × Nat)) (ww : World) => match q with | ⟨i, s, sure, Q⟩ => (i ≤ k ∧ Fa i s sure Q ∧ DK ww B (fun _ => False) tb (faD s Q ((k : Int) - (i : Int)) kp) ∧ B ≤ ww.heap.size ∧ (∀ k, (fun _ => False) k → k < ww.heap.size)) ∧ Below w.heap.size w ww) (fun (q : Nat × ByteArray × Nat × List (Int × Nat)) => match q with | ⟨i, s, sure, Q⟩ => [(1, .int .u8 wh), (2, .int .u8 kp), (7, .pointer (some ⟨tb, 0, none⟩)), (9, .int .i64 (k : Int)), (10, .string s), (11, .int .i64 (sure : Int)), (12, .int .i64 (i : Int))]) (fun (q : Nat × ByteArray × Nat × List (Int × Nat)) => match q with | ⟨i, s, sure, Q⟩ => k - i) (0, ⟨#[97, 98, 99]⟩, 3, []) ⟨⟨Nat.zero_le _, Fa.start, by rw [show (((k : Int) - ((0 : Nat) : Int))) = (k : Int) by omega]; exact R_dk, hB, hN⟩, HB⟩ (Kw.Sub.cons rfl (Kw.Sub.cons rfl (Kw.Sub.cons rfl (Kw.Sub.cons rfl (Kw.Sub.cons rfl (Kw.Sub.cons rfl (Kw.Sub.cons rfl Kw.Sub.nil))))))) ?_
  clear HB
  rintro ⟨i, s, sure, Q⟩ w16 ⟨⟨hi, hF, R_dk, hB, hN⟩, HB⟩
  dsimp only at *
  have hlen := hF.len; have hlq := hF.lenQ; have heq := hF.eq
  refine Kw.WC_seq (fun K17 hK17 => ?_)
  refine Kw.WC_seq (fun K18 hK18 => ?_)
  refine Kw.WC_region [some 46, some 47, some 48] rfl ?_
  refine Kw.WL_v rfl rfl rfl (Kw.R_move rfl) ?_
  refine Kw.WL_v rfl rfl rfl (Kw.R_move rfl) ?_
  by_cases c19 : ((i : Int) : Int) < (k : Int)
  ·
    refine Kw.WL_v rfl rfl rfl (Kw.R_lss (z := true) rfl rfl (decide_eq_true c19)) ?_
    refine Kw.WL_nil ?_
    refine hK18 _ _ ?_; clear hK18 K18
    refine Kw.WC_true rfl ?_
    refine Kw.WC_skip ?_
    refine hK17 _ _ ?_; clear hK17 K17
    refine Kw.WC_seq (fun K20 hK20 => ?_)
    refine Kw.WC_block ?_
    refine Kw.WC_seq (fun K21 hK21 => ?_)
    refine Kw.WC_region [some 13] rfl ?_
    refine Kw.WL_v rfl rfl rfl (Kw.R_assign rfl) ?_
    refine Kw.WL_nil ?_
    refine hK21 _ _ ?_; clear hK21 K21
    refine Kw.WC_seq (fun K22 hK22 => ?_)
    refine Kw.WC_seq (fun K23 hK23 => ?_)
    refine Kw.WC_region [some 51, some 52, some 53] rfl ?_
    refine Kw.WL_v rfl rfl rfl (Kw.R_move rfl) ?_
    obtain ⟨r3, hr3⟩ : ∃ x : Int, x = (i : Int) % 3 := ⟨_, rfl⟩
    refine Kw.WL_v rfl rfl rfl (Kw.R_rem (c := r3) rfl rfl (by omega) (by rw [Kw.tmod_pos (by omega)]; rw [hr3])) ?_
    by_cases c24 : (r3 : Int) < (2 : Int)
    ·
      refine Kw.WL_v rfl rfl rfl (Kw.R_lss (z := true) rfl rfl (decide_eq_true c24)) ?_
      refine Kw.WL_nil ?_
      refine hK23 _ _ ?_; clear hK23 K23
      refine Kw.WC_sub (l' := [(1, .int .u8 wh), (2, .int .u8 kp), (7, .pointer (some ⟨tb, 0, none⟩)), (9, .int .i64 (k : Int)), (10, .string s), (11, .int .i64 (sure : Int)), (12, .int .i64 (i : Int)), (53, .bool true)]) (Kw.Sub.cons rfl (Kw.Sub.cons rfl (Kw.Sub.cons rfl (Kw.Sub.cons rfl (Kw.Sub.cons rfl (Kw.Sub.cons rfl (Kw.Sub.cons rfl (Kw.Sub.cons rfl Kw.Sub.nil)))))))) ?_
      refine Kw.WC_true rfl ?_
      refine Kw.WC_seq (fun K25 hK25 => ?_)
      refine Kw.WC_region [some 54, some 55, some 13] rfl ?_
      refine Kw.WL_v rfl rfl rfl (Kw.R_move rfl) ?_
      have hap : appendD (faD s Q ((k : Int) - (i : Int)) kp) 1 s.data.toList (⟨#[120, 121]⟩ : ByteArray).data.toList = (0, (faD (s ++ ⟨#[120, 121]⟩) (Q ++ [(1, (⟨#[120, 121]⟩ : ByteArray).size)]) ((k : Int) - ((i + 1 : Nat) : Int)) kp)) := fa_append s _ Q kp (by omega) (by omega)
      have hq_ := append_c B (fun _ => False) tb (faD s Q ((k : Int) - (i : Int)) kp) w16 hB hN R_dk rfl (hF.wf (by omega) _ hkp) (by show -1000000000 ≤ ((k : Int) - (i : Int)) ∧ ((k : Int) - (i : Int)) ≤ 1000000000; omega) (by show (0 : Int) ≤ 3000 ∧ (3000 : Int) ≤ 1048576; omega) 1 (by unfold okI; omega) s.data.toList rfl ⟨#[120, 121]⟩ (by unfold freeD faD; dsimp only; rw [show filesLen [((1 : Int), s.data.toList)] = s.data.toList.length + 0 from rfl, size_list]; have h2 : (⟨#[120, 121]⟩ : ByteArray).size ≤ 2 := (by decide); omega) (by show Q.length < 1000000; omega) (by show looseAll Q + (⟨#[120, 121]⟩ : ByteArray).size ≤ 1000000000; have h2 : (⟨#[120, 121]⟩ : ByteArray).size ≤ 2 := (by decide); omega)
      rw [show appendD (faD s Q ((k : Int) - (i : Int)) kp) 1 s.data.toList (⟨#[120, 121]⟩ : ByteArray).data.toList = (0, (faD (s ++ ⟨#[120, 121]⟩) (Q ++ [(1, (⟨#[120, 121]⟩ : ByteArray).size)]) ((k : Int) - ((i + 1 : Nat) : Int)) kp)) from hap] at hq_
      refine Kw.WL_callc rfl rfl rfl rfl F.cl10 rfl hq_ ?_; rintro w26 ⟨R_2, hm⟩; clear hq_
      clear R_dk; have R_dk : DK w26 B (fun _ => False) tb (faD (s ++ ⟨#[120, 121]⟩) (Q ++ [(1, (⟨#[120, 121]⟩ : ByteArray).size)]) ((k : Int) - ((i + 1 : Nat) : Int)) kp) := R_2; clear R_2
      replace HB := Kw.Mut.below HB (Nat.le_refl _) hm (fun k hk => Nat.le_trans hB0 hk.1)
      replace hN := fun k hk => Nat.lt_of_lt_of_le (hN k hk) hm.size; replace hB := Nat.le_trans hB hm.size; clear hm
      refine Kw.WL_v rfl rfl rfl (Kw.R_assign rfl) ?_
      refine Kw.WL_nil ?_
      refine hK25 _ _ ?_; clear hK25 K25
      refine Kw.WC_region [some 56, some 57, some 10] rfl ?_
      refine Kw.WL_v rfl rfl rfl (Kw.R_move rfl) ?_
      refine Kw.WL_v rfl rfl rfl (Kw.R_adds (r := (s ++ ⟨#[120, 121]⟩)) rfl rfl (by have h2 : (⟨#[120, 121]⟩ : ByteArray).size ≤ 2 := (by decide); omega) (rfl)) ?_
      refine Kw.WL_v rfl rfl rfl (Kw.R_assign rfl) ?_
      refine Kw.WL_nil ?_
      refine hK22 _ _ ?_; clear hK22 K22
      refine Kw.WC_seq (fun K27 hK27 => ?_)
      refine Kw.WC_region [some 62, some 63] rfl ?_
      refine Kw.WL_v rfl rfl rfl (Kw.R_move rfl) ?_
      refine Kw.WL_v rfl rfl rfl (Kw.R_nei (z := false) rfl rfl (decide_eq_true (by omega))) ?_
      refine Kw.WL_nil ?_
      refine hK27 _ _ ?_; clear hK27 K27
      refine Kw.WC_sub (l' := [(1, .int .u8 wh), (2, .int .u8 kp), (7, .pointer (some ⟨tb, 0, none⟩)), (9, .int .i64 (k : Int)), (10, .string (s ++ ⟨#[120, 121]⟩)), (11, .int .i64 (sure : Int)), (12, .int .i64 (i : Int)), (63, .bool false)]) (Kw.Sub.cons rfl (Kw.Sub.cons rfl (Kw.Sub.cons rfl (Kw.Sub.cons rfl (Kw.Sub.cons rfl (Kw.Sub.cons rfl (Kw.Sub.cons rfl (Kw.Sub.cons rfl Kw.Sub.nil)))))))) ?_
      refine Kw.WC_false rfl ?_
      refine Kw.WC_skip ?_
      refine Kw.QN_block ?_
      refine hK20 _ _ ?_; clear hK20 K20
      refine Kw.WC_region [some 49, some 50, some 12] rfl ?_
      refine Kw.WL_v rfl rfl rfl (Kw.R_move rfl) ?_
      refine Kw.WL_v rfl rfl rfl (Kw.R_add (c := ((i + 1 : Nat) : Int)) rfl rfl (by rw [Kw.wrap_i64 (by omega)]; omega)) ?_
      refine Kw.WL_v rfl rfl rfl (Kw.R_assign rfl) ?_
      refine Kw.WL_nil ?_
      refine Kw.QN_round ((i + 1, (s ++ ⟨#[120, 121]⟩), sure, (Q ++ [(1, (⟨#[120, 121]⟩ : ByteArray).size)]))) ⟨⟨by (try dsimp only); omega, hF.append _ (by decide), R_dk, hB, hN⟩, HB⟩ (by dsimp only; omega) (Kw.Sub.cons rfl (Kw.Sub.cons rfl (Kw.Sub.cons rfl (Kw.Sub.cons rfl (Kw.Sub.cons rfl (Kw.Sub.cons rfl (Kw.Sub.cons rfl Kw.Sub.nil)))))))
    ·
      refine Kw.WL_v rfl rfl rfl (Kw.R_lss (z := false) rfl rfl (decide_eq_false c24)) ?_
      refine Kw.WL_nil ?_
      refine hK23 _ _ ?_; clear hK23 K23
      refine Kw.WC_sub (l' := [(1, .int .u8 wh), (2, .int .u8 kp), (7, .pointer (some ⟨tb, 0, none⟩)), (9, .int .i64 (k : Int)), (10, .string s), (11, .int .i64 (sure : Int)), (12, .int .i64 (i : Int)), (53, .bool false)]) (Kw.Sub.cons rfl (Kw.Sub.cons rfl (Kw.Sub.cons rfl (Kw.Sub.cons rfl (Kw.Sub.cons rfl (Kw.Sub.cons rfl (Kw.Sub.cons rfl (Kw.Sub.cons rfl Kw.Sub.nil)))))))) ?_
      refine Kw.WC_false rfl ?_
      refine Kw.WC_seq (fun K28 hK28 => ?_)
      refine Kw.WC_region [some 58, some 59, some 13] rfl ?_
      refine Kw.WL_v rfl rfl rfl (Kw.R_move rfl) ?_
      have hsy : syncD (faD s Q ((k : Int) - (i : Int)) kp) = (0, (faD s [] ((k : Int) - ((i + 1 : Nat) : Int)) kp)) := fa_sync s Q kp (by omega) (by omega)
      have hq_ := sync_c B (fun _ => False) tb (faD s Q ((k : Int) - (i : Int)) kp) w16 hB hN R_dk rfl (hF.wf (by omega) _ hkp) (by show -1000000000 ≤ ((k : Int) - (i : Int)) ∧ ((k : Int) - (i : Int)) ≤ 1000000000; omega)
      rw [show syncD (faD s Q ((k : Int) - (i : Int)) kp) = (0, (faD s [] ((k : Int) - ((i + 1 : Nat) : Int)) kp)) from hsy] at hq_
      refine Kw.WL_callc rfl rfl rfl rfl F.cl9 rfl hq_ ?_; rintro w29 ⟨R_2, hm⟩; clear hq_
      clear R_dk; have R_dk : DK w29 B (fun _ => False) tb (faD s [] ((k : Int) - ((i + 1 : Nat) : Int)) kp) := R_2; clear R_2
      replace HB := Kw.Mut.below HB (Nat.le_refl _) hm (fun k hk => Nat.le_trans hB0 hk.1)
      replace hN := fun k hk => Nat.lt_of_lt_of_le (hN k hk) hm.size; replace hB := Nat.le_trans hB hm.size; clear hm
      refine Kw.WL_v rfl rfl rfl (Kw.R_assign rfl) ?_
      refine Kw.WL_nil ?_
      refine hK28 _ _ ?_; clear hK28 K28
      refine Kw.WC_region [some 60, some 61, some 11] rfl ?_
      refine Kw.WL_v rfl rfl rfl (Kw.R_move rfl) ?_
      refine Kw.WL_v rfl rfl rfl (Kw.R_lens Try.underlying9 rfl) ?_
      refine Kw.WL_v rfl rfl rfl (Kw.R_assign rfl) ?_
      refine Kw.WL_nil ?_
      refine hK22 _ _ ?_; clear hK22 K22
      refine Kw.WC_seq (fun K30 hK30 => ?_)
      refine Kw.WC_region [some 62, some 63] rfl ?_
      refine Kw.WL_v rfl rfl rfl (Kw.R_move rfl) ?_
      refine Kw.WL_v rfl rfl rfl (Kw.R_nei (z := false) rfl rfl (decide_eq_true (by omega))) ?_
      refine Kw.WL_nil ?_
      refine hK30 _ _ ?_; clear hK30 K30
      refine Kw.WC_sub (l' := [(1, .int .u8 wh), (2, .int .u8 kp), (7, .pointer (some ⟨tb, 0, none⟩)), (9, .int .i64 (k : Int)), (10, .string s), (11, .int .i64 (s.size : Int)), (12, .int .i64 (i : Int)), (63, .bool false)]) (Kw.Sub.cons rfl (Kw.Sub.cons rfl (Kw.Sub.cons rfl (Kw.Sub.cons rfl (Kw.Sub.cons rfl (Kw.Sub.cons rfl (Kw.Sub.cons rfl (Kw.Sub.cons rfl Kw.Sub.nil)))))))) ?_
      refine Kw.WC_false rfl ?_
      refine Kw.WC_skip ?_
      refine Kw.QN_block ?_
      refine hK20 _ _ ?_; clear hK20 K20
      refine Kw.WC_region [some 49, some 50, some 12] rfl ?_
      refine Kw.WL_v rfl rfl rfl (Kw.R_move rfl) ?_
      refine Kw.WL_v rfl rfl rfl (Kw.R_add (c := ((i + 1 : Nat) : Int)) rfl rfl (by rw [Kw.wrap_i64 (by omega)]; omega)) ?_
      refine Kw.WL_v rfl rfl rfl (Kw.R_assign rfl) ?_
      refine Kw.WL_nil ?_
      refine Kw.QN_round ((i + 1, s, s.size, [])) ⟨⟨by (try dsimp only); omega, hF.sync, R_dk, hB, hN⟩, HB⟩ (by dsimp only; omega) (Kw.Sub.cons rfl (Kw.Sub.cons rfl (Kw.Sub.cons rfl (Kw.Sub.cons rfl (Kw.Sub.cons rfl (Kw.Sub.cons rfl (Kw.Sub.cons rfl Kw.Sub.nil)))))))
  ·
    refine Kw.WL_v rfl rfl rfl (Kw.R_lss (z := false) rfl rfl (decide_eq_false c19)) ?_
    refine Kw.WL_nil ?_
    refine hK18 _ _ ?_; clear hK18 K18
    refine Kw.WC_false rfl ?_
    refine Kw.WC_exit ?_
    refine Kw.QE_then ?_; clear hK17 K17
    refine Kw.QE_then ?_
    refine Kw.QE_here ?_
    refine hK14 _ _ ?_; clear hK14 K14
    refine Kw.WC_seq (fun K31 hK31 => ?_)
    refine Kw.WC_region [some 14] rfl ?_
    refine Kw.WL_v rfl rfl rfl (Kw.R_assign rfl) ?_
    refine Kw.WL_nil ?_
    refine hK31 _ _ ?_; clear hK31 K31
    refine Kw.WC_sub (l' := [(1, .int .u8 wh), (2, .int .u8 kp), (7, .pointer (some ⟨tb, 0, none⟩)), (10, .string s), (11, .int .i64 (sure : Int))]) (Kw.Sub.cons rfl (Kw.Sub.cons rfl (Kw.Sub.cons rfl (Kw.Sub.cons rfl (Kw.Sub.cons rfl Kw.Sub.nil))))) ?_
    refine Kw.WC_seq (fun K32 hK32 => ?_)
    refine Kw.WC_seq (fun K33 hK33 => ?_)
    refine Kw.WC_region [some 64, some 65] rfl ?_
    refine Kw.WL_v rfl rfl rfl (Kw.R_move rfl) ?_
    have hik : i = k := by omega
    rw [show ((k : Int) - (i : Int)) = 0 by omega] at R_dk
    have hWF := hF.wf (by omega) 0 hkp
    obtain ⟨r5, hr5⟩ : ∃ x : Int, x = wh % 5 := ⟨_, rfl⟩
    refine Kw.WL_v rfl rfl rfl (Kw.R_rem (c := r5) rfl rfl (by omega) (by rw [Kw.tmod_pos (by omega)]; rw [hr5])) ?_
    refine Kw.WL_nil ?_
    refine hK33 _ _ ?_; clear hK33 K33
    refine Kw.WC_block ?_
    refine Kw.WC_seq (fun K34 hK34 => ?_)
    refine Kw.WC_region [some 71, some 70] rfl ?_
    by_cases c35 : (r5 : Int) = (0 : Int)
    ·
      refine Kw.WL_v rfl rfl rfl (Kw.R_eqi (z := true) rfl rfl (decide_eq_true c35)) ?_
      refine Kw.WL_v rfl rfl rfl (Kw.R_assign rfl) ?_
      refine Kw.WL_nil ?_
      refine hK34 _ _ ?_; clear hK34 K34
      refine Kw.WC_true rfl ?_
      refine Kw.WC_region [some 72, some 73, some 14] rfl ?_
      refine Kw.WL_v rfl rfl rfl (Kw.R_move rfl) ?_
      have hrs : createD (faD s Q 0 kp) 2 = (61, (sinkD (tickD (faD s Q 0 kp)))) := fa_create_sunk s Q kp
      have hq_ := create_c B (fun _ => False) tb (faD s Q 0 kp) w16 hB hN R_dk rfl hWF (by show -1000000000 ≤ (0 : Int) ∧ (0 : Int) ≤ 1000000000; omega) 2 (by unfold okI; omega) (by decide) rfl (by show 1 < 100; omega)
      rw [show createD (faD s Q 0 kp) 2 = (61, (sinkD (tickD (faD s Q 0 kp)))) from hrs] at hq_
      refine Kw.WL_callc rfl rfl rfl rfl F.cl8 rfl hq_ ?_; rintro w36 ⟨R_2, hm⟩; clear hq_
      clear R_dk; have R_dk : DK w36 B (fun _ => False) tb (sinkD (tickD (faD s Q 0 kp))) := R_2; clear R_2
      replace HB := Kw.Mut.below HB (Nat.le_refl _) hm (fun k hk => Nat.le_trans hB0 hk.1)
      replace hN := fun k hk => Nat.lt_of_lt_of_le (hN k hk) hm.size; replace hB := Nat.le_trans hB hm.size; clear hm
      refine Kw.WL_v rfl rfl rfl (Kw.R_assign rfl) ?_
      refine Kw.WL_nil ?_
      refine Kw.QN_block ?_
      refine hK32 _ _ ?_; clear hK32 K32
      refine Kw.WC_sub (l' := [(2, .int .u8 kp), (7, .pointer (some ⟨tb, 0, none⟩)), (10, .string s), (11, .int .i64 (sure : Int)), (14, .int .i64 61)]) (Kw.Sub.cons rfl (Kw.Sub.cons rfl (Kw.Sub.cons rfl (Kw.Sub.cons rfl (Kw.Sub.cons rfl Kw.Sub.nil))))) ?_
      refine Kw.WC_seq (fun K37 hK37 => ?_)
      refine Kw.WC_region [some 86, some 87, some 88, some 89, some 90, some 91, some 92, some 93, some 94, some 95, some 96, some 15] rfl ?_
      refine Kw.WL_v rfl rfl rfl (Kw.R_move rfl) ?_
      refine Kw.WL_v rfl rfl rfl (Kw.R_move rfl) ?_
      refine Kw.WL_v rfl rfl rfl (Kw.R_move rfl) ?_
      refine Kw.WL_v rfl rfl rfl (Kw.R_conv (c := kp) Try.underlying5 Try.underlying3 rfl (Kw.wrap_i64 (by omega))) ?_
      refine Kw.WL_v rfl rfl rfl (Kw.R_move rfl) ?_
      refine Kw.WL_v rfl rfl rfl (Kw.R_lens Try.underlying9 rfl) ?_
      have hfe := hF.eq; have hfl := hF.len
      obtain ⟨mm, hmm⟩ : ∃ x : Nat, min kp ((s.size : Int) - sure) = (x : Int) := ⟨(min kp ((s.size : Int) - sure)).toNat, by omega⟩
      rw [hF.sink (by omega) hmm] at R_dk
      refine Kw.WL_v rfl rfl rfl (Kw.R_move rfl) ?_
      refine Kw.WL_v rfl rfl rfl (Kw.R_sub (c := ((s.size : Int) - sure)) rfl rfl (Kw.wrap_i64 (by omega))) ?_
      refine Kw.WL_v rfl rfl rfl (Kw.R_min (c := (mm : Int)) rfl rfl (hmm)) ?_
      refine Kw.WL_v rfl rfl rfl (Kw.R_add (c := ((sure + mm : Nat) : Int)) rfl rfl (by rw [Kw.wrap_i64 (by omega)]; omega)) ?_
      refine Kw.WL_v rfl rfl rfl (Kw.R_slices (i := 0) (j := (sure + mm : Nat)) (r := (s.extract 0 (sure + mm))) Try.underlying9 rfl rfl ⟨_, rfl⟩ (by omega) (by omega) (rfl)) ?_
      refine Kw.WL_v rfl rfl rfl (Kw.R_assign rfl) ?_
      refine Kw.WL_nil ?_
      refine hK37 _ _ ?_; clear hK37 K37
      refine Kw.WC_sub (l' := [(7, .pointer (some ⟨tb, 0, none⟩)), (14, .int .i64 61), (15, .string (s.extract 0 (sure + mm)))]) (Kw.Sub.cons rfl (Kw.Sub.cons rfl (Kw.Sub.cons rfl Kw.Sub.nil))) ?_
      refine Kw.WC_seq (fun K39 hK39 => ?_)
      refine Kw.WC_region [some 97, some 98, some 99, some 100, some 101, some 102, some 103, some 104, some 105, some 106, some 107, some 108, some 109, some 110, some 111, some 112, some 113, some 114, some 115, some 116, some 117, some 118, some 119, some 120, some 121, some 122, some 6] rfl ?_
      refine Kw.WL_v rfl rfl rfl (Kw.R_move rfl) ?_
      refine Kw.WL_v rfl rfl rfl (Kw.R_eqi (z := true) rfl rfl (decide_eq_true (by omega))) ?_
      refine Kw.WL_v rfl rfl rfl (Kw.R_move rfl) ?_
      refine Kw.WL_v rfl rfl rfl (Kw.R_move rfl) ?_
      have hq_ := down_c B (fun _ => False) tb (faS s (sure + mm) kp) w36 hB hN R_dk rfl
      refine Kw.WL_callc rfl rfl rfl rfl F.cl12 rfl (hq_) ?_; intro ww hww; rw [hww]; clear hww ww
      clear hq_
      refine Kw.WL_v rfl rfl rfl (Kw.R_not rfl rfl) ?_
      refine Kw.WL_v rfl rfl rfl (Kw.R_pickt rfl rfl) ?_
      refine Kw.WL_v rfl rfl rfl (Kw.R_move rfl) ?_
      refine Kw.WL_v rfl rfl rfl (Kw.R_move rfl) ?_
      have hq_ := start_c B (fun _ => False) tb (faS s (sure + mm) kp) w36 hB hN R_dk rfl (by show (0 : Int) ≤ 0 ∧ (0 : Int) ≤ 1000000000; omega)
      refine Kw.WL_callc rfl rfl rfl rfl F.cl13 rfl hq_ ?_; rintro w41 ⟨R_2, hm⟩; clear hq_
      clear R_dk; have R_dk : DK w41 B (fun _ => False) tb (startD (faS s (sure + mm) kp)) := R_2; clear R_2
      replace HB := Kw.Mut.below HB (Nat.le_refl _) hm (fun k hk => Nat.le_trans hB0 hk.1)
      replace hN := fun k hk => Nat.lt_of_lt_of_le (hN k hk) hm.size; replace hB := Nat.le_trans hB hm.size; clear hm
      have hWS := faS.wf s (sure + mm) hkp (by omega)
      refine Kw.WL_v rfl rfl rfl (Kw.R_eqi (z := true) rfl rfl (decide_eq_true (by omega))) ?_
      refine Kw.WL_v rfl rfl rfl (Kw.R_pickt rfl rfl) ?_
      refine Kw.WL_v rfl rfl rfl (Kw.R_move rfl) ?_
      refine Kw.WL_v rfl rfl rfl (Kw.R_move rfl) ?_
      refine Kw.WL_call rfl rfl rfl rfl F.cl19 rfl (files_c B (fun _ => False) tb _ w41 hB hN R_dk rfl (by show (1 : Nat) ≤ 1000; omega)) ?_; rintro _ w42 ⟨⟨fa, fc, rfl⟩, bw42⟩
      replace R_dk := R_dk.call bw42; replace hB := Nat.le_trans hB bw42.size; replace hN := fun k hk => Nat.lt_of_lt_of_le (hN k hk) bw42.size
      replace HB := Kw.Below.then HB (Nat.le_refl _) bw42; clear bw42
      refine Kw.WL_v rfl rfl rfl (Kw.R_lenl (n := 1) Try.underlying38 rfl) ?_
      refine Kw.WL_v rfl rfl rfl (Kw.R_eqi (z := true) rfl rfl (decide_eq_true (by omega))) ?_
      refine Kw.WL_v rfl rfl rfl (Kw.R_pickt rfl rfl) ?_
      refine Kw.WL_v rfl rfl rfl (Kw.R_move rfl) ?_
      refine Kw.WL_v rfl rfl rfl (Kw.R_move rfl) ?_
      refine Kw.WL_v rfl rfl rfl (Kw.R_move rfl) ?_
      have hq_ := reads_c B (fun _ => False) tb (startD (faS s (sure + mm) kp)) w42 hB hN R_dk rfl hWS 1 (by unfold okI; omega) (s.extract 0 (sure + mm)) (by show some (s.data.toList.take (sure + mm)) = some _; rw [bytes_extract'])
      refine Kw.WL_callc rfl rfl rfl rfl F.cl15 rfl (hq_) ?_; intro ww hww; rw [hww]; clear hww ww
      clear hq_
      refine Kw.WL_v rfl rfl rfl (Kw.R_pickt rfl rfl) ?_
      refine Kw.WL_v rfl rfl rfl (Kw.R_move rfl) ?_
      refine Kw.WL_callc rfl rfl rfl rfl F.cl6 rfl (stored_c _) ?_; intro w44 bw44
      replace HB := Kw.Below.then HB (Nat.le_refl _) bw44
      clear bw44
      refine Kw.WL_v rfl rfl rfl (Kw.R_pickt rfl rfl) ?_
      refine Kw.WL_v rfl rfl rfl (Kw.R_assign rfl) ?_
      refine Kw.WL_nil ?_
      refine hK39 _ _ ?_; clear hK39 K39
      refine Kw.WC_sub (l' := [(6, .bool true)]) (Kw.Sub.cons rfl Kw.Sub.nil) ?_
      refine Kw.WC_ret ?_
      exact Kw.post_ret1 rfl rfl ⟨rfl, HB⟩
    ·
      refine Kw.WL_v rfl rfl rfl (Kw.R_eqi (z := false) rfl rfl (decide_eq_false c35)) ?_
      refine Kw.WL_v rfl rfl rfl (Kw.R_assign rfl) ?_
      refine Kw.WL_nil ?_
      refine hK34 _ _ ?_; clear hK34 K34
      refine Kw.WC_false rfl ?_
      refine Kw.WC_seq (fun K45 hK45 => ?_)
      refine Kw.WC_region [some 75, some 74] rfl ?_
      by_cases c46 : (r5 : Int) = (1 : Int)
      ·
        refine Kw.WL_v rfl rfl rfl (Kw.R_eqi (z := true) rfl rfl (decide_eq_true c46)) ?_
        refine Kw.WL_v rfl rfl rfl (Kw.R_assign rfl) ?_
        refine Kw.WL_nil ?_
        refine hK45 _ _ ?_; clear hK45 K45
        refine Kw.WC_true rfl ?_
        refine Kw.WC_region [some 76, some 77, some 14] rfl ?_
        refine Kw.WL_v rfl rfl rfl (Kw.R_move rfl) ?_
        have hq_ := delete_sunk B (fun _ => False) tb (faD s Q 0 kp) w16 hB hN R_dk rfl hWF (by show -1000000000 ≤ (0 : Int) ∧ (0 : Int) ≤ 1000000000; omega) rfl (by show (0 : Int) - 1 < 0; omega) 1 (by unfold okI; omega) s.data.toList rfl
        refine Kw.WL_callc rfl rfl rfl rfl F.cl17 rfl hq_ ?_; rintro w47 ⟨R_2, hm⟩; clear hq_
        clear R_dk; have R_dk : DK w47 B (fun _ => False) tb (sinkD (tickD (faD s Q 0 kp))) := R_2; clear R_2
        replace HB := Kw.Mut.below HB (Nat.le_refl _) hm (fun k hk => Nat.le_trans hB0 hk.1)
        replace hN := fun k hk => Nat.lt_of_lt_of_le (hN k hk) hm.size; replace hB := Nat.le_trans hB hm.size; clear hm
        refine Kw.WL_v rfl rfl rfl (Kw.R_assign rfl) ?_
        refine Kw.WL_nil ?_
        refine Kw.QN_block ?_
        refine hK32 _ _ ?_; clear hK32 K32
        refine Kw.WC_sub (l' := [(2, .int .u8 kp), (7, .pointer (some ⟨tb, 0, none⟩)), (10, .string s), (11, .int .i64 (sure : Int)), (14, .int .i64 61)]) (Kw.Sub.cons rfl (Kw.Sub.cons rfl (Kw.Sub.cons rfl (Kw.Sub.cons rfl (Kw.Sub.cons rfl Kw.Sub.nil))))) ?_
        refine Kw.WC_seq (fun K48 hK48 => ?_)
        refine Kw.WC_region [some 86, some 87, some 88, some 89, some 90, some 91, some 92, some 93, some 94, some 95, some 96, some 15] rfl ?_
        refine Kw.WL_v rfl rfl rfl (Kw.R_move rfl) ?_
        refine Kw.WL_v rfl rfl rfl (Kw.R_move rfl) ?_
        refine Kw.WL_v rfl rfl rfl (Kw.R_move rfl) ?_
        refine Kw.WL_v rfl rfl rfl (Kw.R_conv (c := kp) Try.underlying5 Try.underlying3 rfl (Kw.wrap_i64 (by omega))) ?_
        refine Kw.WL_v rfl rfl rfl (Kw.R_move rfl) ?_
        refine Kw.WL_v rfl rfl rfl (Kw.R_lens Try.underlying9 rfl) ?_
        have hfe := hF.eq; have hfl := hF.len
        obtain ⟨mm, hmm⟩ : ∃ x : Nat, min kp ((s.size : Int) - sure) = (x : Int) := ⟨(min kp ((s.size : Int) - sure)).toNat, by omega⟩
        rw [hF.sink (by omega) hmm] at R_dk
        refine Kw.WL_v rfl rfl rfl (Kw.R_move rfl) ?_
        refine Kw.WL_v rfl rfl rfl (Kw.R_sub (c := ((s.size : Int) - sure)) rfl rfl (Kw.wrap_i64 (by omega))) ?_
        refine Kw.WL_v rfl rfl rfl (Kw.R_min (c := (mm : Int)) rfl rfl (hmm)) ?_
        refine Kw.WL_v rfl rfl rfl (Kw.R_add (c := ((sure + mm : Nat) : Int)) rfl rfl (by rw [Kw.wrap_i64 (by omega)]; omega)) ?_
        refine Kw.WL_v rfl rfl rfl (Kw.R_slices (i := 0) (j := (sure + mm : Nat)) (r := (s.extract 0 (sure + mm))) Try.underlying9 rfl rfl ⟨_, rfl⟩ (by omega) (by omega) (rfl)) ?_
        refine Kw.WL_v rfl rfl rfl (Kw.R_assign rfl) ?_
        refine Kw.WL_nil ?_
        refine hK48 _ _ ?_; clear hK48 K48
        refine Kw.WC_sub (l' := [(7, .pointer (some ⟨tb, 0, none⟩)), (14, .int .i64 61), (15, .string (s.extract 0 (sure + mm)))]) (Kw.Sub.cons rfl (Kw.Sub.cons rfl (Kw.Sub.cons rfl Kw.Sub.nil))) ?_
        refine Kw.WC_seq (fun K50 hK50 => ?_)
        refine Kw.WC_region [some 97, some 98, some 99, some 100, some 101, some 102, some 103, some 104, some 105, some 106, some 107, some 108, some 109, some 110, some 111, some 112, some 113, some 114, some 115, some 116, some 117, some 118, some 119, some 120, some 121, some 122, some 6] rfl ?_
        refine Kw.WL_v rfl rfl rfl (Kw.R_move rfl) ?_
        refine Kw.WL_v rfl rfl rfl (Kw.R_eqi (z := true) rfl rfl (decide_eq_true (by omega))) ?_
        refine Kw.WL_v rfl rfl rfl (Kw.R_move rfl) ?_
        refine Kw.WL_v rfl rfl rfl (Kw.R_move rfl) ?_
        have hq_ := down_c B (fun _ => False) tb (faS s (sure + mm) kp) w47 hB hN R_dk rfl
        refine Kw.WL_callc rfl rfl rfl rfl F.cl12 rfl (hq_) ?_; intro ww hww; rw [hww]; clear hww ww
        clear hq_
        refine Kw.WL_v rfl rfl rfl (Kw.R_not rfl rfl) ?_
        refine Kw.WL_v rfl rfl rfl (Kw.R_pickt rfl rfl) ?_
        refine Kw.WL_v rfl rfl rfl (Kw.R_move rfl) ?_
        refine Kw.WL_v rfl rfl rfl (Kw.R_move rfl) ?_
        have hq_ := start_c B (fun _ => False) tb (faS s (sure + mm) kp) w47 hB hN R_dk rfl (by show (0 : Int) ≤ 0 ∧ (0 : Int) ≤ 1000000000; omega)
        refine Kw.WL_callc rfl rfl rfl rfl F.cl13 rfl hq_ ?_; rintro w52 ⟨R_2, hm⟩; clear hq_
        clear R_dk; have R_dk : DK w52 B (fun _ => False) tb (startD (faS s (sure + mm) kp)) := R_2; clear R_2
        replace HB := Kw.Mut.below HB (Nat.le_refl _) hm (fun k hk => Nat.le_trans hB0 hk.1)
        replace hN := fun k hk => Nat.lt_of_lt_of_le (hN k hk) hm.size; replace hB := Nat.le_trans hB hm.size; clear hm
        have hWS := faS.wf s (sure + mm) hkp (by omega)
        refine Kw.WL_v rfl rfl rfl (Kw.R_eqi (z := true) rfl rfl (decide_eq_true (by omega))) ?_
        refine Kw.WL_v rfl rfl rfl (Kw.R_pickt rfl rfl) ?_
        refine Kw.WL_v rfl rfl rfl (Kw.R_move rfl) ?_
        refine Kw.WL_v rfl rfl rfl (Kw.R_move rfl) ?_
        refine Kw.WL_call rfl rfl rfl rfl F.cl19 rfl (files_c B (fun _ => False) tb _ w52 hB hN R_dk rfl (by show (1 : Nat) ≤ 1000; omega)) ?_; rintro _ w53 ⟨⟨fa, fc, rfl⟩, bw53⟩
        replace R_dk := R_dk.call bw53; replace hB := Nat.le_trans hB bw53.size; replace hN := fun k hk => Nat.lt_of_lt_of_le (hN k hk) bw53.size
        replace HB := Kw.Below.then HB (Nat.le_refl _) bw53; clear bw53
        refine Kw.WL_v rfl rfl rfl (Kw.R_lenl (n := 1) Try.underlying38 rfl) ?_
        refine Kw.WL_v rfl rfl rfl (Kw.R_eqi (z := true) rfl rfl (decide_eq_true (by omega))) ?_
        refine Kw.WL_v rfl rfl rfl (Kw.R_pickt rfl rfl) ?_
        refine Kw.WL_v rfl rfl rfl (Kw.R_move rfl) ?_
        refine Kw.WL_v rfl rfl rfl (Kw.R_move rfl) ?_
        refine Kw.WL_v rfl rfl rfl (Kw.R_move rfl) ?_
        have hq_ := reads_c B (fun _ => False) tb (startD (faS s (sure + mm) kp)) w53 hB hN R_dk rfl hWS 1 (by unfold okI; omega) (s.extract 0 (sure + mm)) (by show some (s.data.toList.take (sure + mm)) = some _; rw [bytes_extract'])
        refine Kw.WL_callc rfl rfl rfl rfl F.cl15 rfl (hq_) ?_; intro ww hww; rw [hww]; clear hww ww
        clear hq_
        refine Kw.WL_v rfl rfl rfl (Kw.R_pickt rfl rfl) ?_
        refine Kw.WL_v rfl rfl rfl (Kw.R_move rfl) ?_
        refine Kw.WL_callc rfl rfl rfl rfl F.cl6 rfl (stored_c _) ?_; intro w55 bw55
        replace HB := Kw.Below.then HB (Nat.le_refl _) bw55
        clear bw55
        refine Kw.WL_v rfl rfl rfl (Kw.R_pickt rfl rfl) ?_
        refine Kw.WL_v rfl rfl rfl (Kw.R_assign rfl) ?_
        refine Kw.WL_nil ?_
        refine hK50 _ _ ?_; clear hK50 K50
        refine Kw.WC_sub (l' := [(6, .bool true)]) (Kw.Sub.cons rfl Kw.Sub.nil) ?_
        refine Kw.WC_ret ?_
        exact Kw.post_ret1 rfl rfl ⟨rfl, HB⟩
      ·
        refine Kw.WL_v rfl rfl rfl (Kw.R_eqi (z := false) rfl rfl (decide_eq_false c46)) ?_
        refine Kw.WL_v rfl rfl rfl (Kw.R_assign rfl) ?_
        refine Kw.WL_nil ?_
        refine hK45 _ _ ?_; clear hK45 K45
        refine Kw.WC_false rfl ?_
        refine Kw.WC_seq (fun K56 hK56 => ?_)
        refine Kw.WC_region [some 79, some 78] rfl ?_
        by_cases c57 : (r5 : Int) = (2 : Int)
        ·
          refine Kw.WL_v rfl rfl rfl (Kw.R_eqi (z := true) rfl rfl (decide_eq_true c57)) ?_
          refine Kw.WL_v rfl rfl rfl (Kw.R_assign rfl) ?_
          refine Kw.WL_nil ?_
          refine hK56 _ _ ?_; clear hK56 K56
          refine Kw.WC_sub (l' := [(2, .int .u8 kp), (7, .pointer (some ⟨tb, 0, none⟩)), (10, .string s), (11, .int .i64 (sure : Int)), (65, .int .u8 r5), (78, .bool true)]) (Kw.Sub.cons rfl (Kw.Sub.cons rfl (Kw.Sub.cons rfl (Kw.Sub.cons rfl (Kw.Sub.cons rfl (Kw.Sub.cons rfl Kw.Sub.nil)))))) ?_
          refine Kw.WC_true rfl ?_
          refine Kw.WC_region [some 80, some 81, some 14] rfl ?_
          refine Kw.WL_v rfl rfl rfl (Kw.R_move rfl) ?_
          have hq_ := truncate_sunk B (fun _ => False) tb (faD s Q 0 kp) w16 hB hN R_dk rfl hWF (by show -1000000000 ≤ (0 : Int) ∧ (0 : Int) ≤ 1000000000; omega) rfl (by show (0 : Int) - 1 < 0; omega) 1 (by unfold okI; omega) s.data.toList rfl 1 (by rw [size_list]; have := hF.three; omega)
          refine Kw.WL_callc rfl rfl rfl rfl F.cl18 rfl hq_ ?_; rintro w58 ⟨R_2, hm⟩; clear hq_
          clear R_dk; have R_dk : DK w58 B (fun _ => False) tb (sinkD (tickD (faD s Q 0 kp))) := R_2; clear R_2
          replace HB := Kw.Mut.below HB (Nat.le_refl _) hm (fun k hk => Nat.le_trans hB0 hk.1)
          replace hN := fun k hk => Nat.lt_of_lt_of_le (hN k hk) hm.size; replace hB := Nat.le_trans hB hm.size; clear hm
          refine Kw.WL_v rfl rfl rfl (Kw.R_assign rfl) ?_
          refine Kw.WL_nil ?_
          refine Kw.QN_block ?_
          refine hK32 _ _ ?_; clear hK32 K32
          refine Kw.WC_seq (fun K59 hK59 => ?_)
          refine Kw.WC_region [some 86, some 87, some 88, some 89, some 90, some 91, some 92, some 93, some 94, some 95, some 96, some 15] rfl ?_
          refine Kw.WL_v rfl rfl rfl (Kw.R_move rfl) ?_
          refine Kw.WL_v rfl rfl rfl (Kw.R_move rfl) ?_
          refine Kw.WL_v rfl rfl rfl (Kw.R_move rfl) ?_
          refine Kw.WL_v rfl rfl rfl (Kw.R_conv (c := kp) Try.underlying5 Try.underlying3 rfl (Kw.wrap_i64 (by omega))) ?_
          refine Kw.WL_v rfl rfl rfl (Kw.R_move rfl) ?_
          refine Kw.WL_v rfl rfl rfl (Kw.R_lens Try.underlying9 rfl) ?_
          have hfe := hF.eq; have hfl := hF.len
          obtain ⟨mm, hmm⟩ : ∃ x : Nat, min kp ((s.size : Int) - sure) = (x : Int) := ⟨(min kp ((s.size : Int) - sure)).toNat, by omega⟩
          rw [hF.sink (by omega) hmm] at R_dk
          refine Kw.WL_v rfl rfl rfl (Kw.R_move rfl) ?_
          refine Kw.WL_v rfl rfl rfl (Kw.R_sub (c := ((s.size : Int) - sure)) rfl rfl (Kw.wrap_i64 (by omega))) ?_
          refine Kw.WL_v rfl rfl rfl (Kw.R_min (c := (mm : Int)) rfl rfl (hmm)) ?_
          refine Kw.WL_v rfl rfl rfl (Kw.R_add (c := ((sure + mm : Nat) : Int)) rfl rfl (by rw [Kw.wrap_i64 (by omega)]; omega)) ?_
          refine Kw.WL_v rfl rfl rfl (Kw.R_slices (i := 0) (j := (sure + mm : Nat)) (r := (s.extract 0 (sure + mm))) Try.underlying9 rfl rfl ⟨_, rfl⟩ (by omega) (by omega) (rfl)) ?_
          refine Kw.WL_v rfl rfl rfl (Kw.R_assign rfl) ?_
          refine Kw.WL_nil ?_
          refine hK59 _ _ ?_; clear hK59 K59
          refine Kw.WC_sub (l' := [(7, .pointer (some ⟨tb, 0, none⟩)), (14, .int .i64 61), (15, .string (s.extract 0 (sure + mm)))]) (Kw.Sub.cons rfl (Kw.Sub.cons rfl (Kw.Sub.cons rfl Kw.Sub.nil))) ?_
          refine Kw.WC_seq (fun K61 hK61 => ?_)
          refine Kw.WC_region [some 97, some 98, some 99, some 100, some 101, some 102, some 103, some 104, some 105, some 106, some 107, some 108, some 109, some 110, some 111, some 112, some 113, some 114, some 115, some 116, some 117, some 118, some 119, some 120, some 121, some 122, some 6] rfl ?_
          refine Kw.WL_v rfl rfl rfl (Kw.R_move rfl) ?_
          refine Kw.WL_v rfl rfl rfl (Kw.R_eqi (z := true) rfl rfl (decide_eq_true (by omega))) ?_
          refine Kw.WL_v rfl rfl rfl (Kw.R_move rfl) ?_
          refine Kw.WL_v rfl rfl rfl (Kw.R_move rfl) ?_
          have hq_ := down_c B (fun _ => False) tb (faS s (sure + mm) kp) w58 hB hN R_dk rfl
          refine Kw.WL_callc rfl rfl rfl rfl F.cl12 rfl (hq_) ?_; intro ww hww; rw [hww]; clear hww ww
          clear hq_
          refine Kw.WL_v rfl rfl rfl (Kw.R_not rfl rfl) ?_
          refine Kw.WL_v rfl rfl rfl (Kw.R_pickt rfl rfl) ?_
          refine Kw.WL_v rfl rfl rfl (Kw.R_move rfl) ?_
          refine Kw.WL_v rfl rfl rfl (Kw.R_move rfl) ?_
          have hq_ := start_c B (fun _ => False) tb (faS s (sure + mm) kp) w58 hB hN R_dk rfl (by show (0 : Int) ≤ 0 ∧ (0 : Int) ≤ 1000000000; omega)
          refine Kw.WL_callc rfl rfl rfl rfl F.cl13 rfl hq_ ?_; rintro w63 ⟨R_2, hm⟩; clear hq_
          clear R_dk; have R_dk : DK w63 B (fun _ => False) tb (startD (faS s (sure + mm) kp)) := R_2; clear R_2
          replace HB := Kw.Mut.below HB (Nat.le_refl _) hm (fun k hk => Nat.le_trans hB0 hk.1)
          replace hN := fun k hk => Nat.lt_of_lt_of_le (hN k hk) hm.size; replace hB := Nat.le_trans hB hm.size; clear hm
          have hWS := faS.wf s (sure + mm) hkp (by omega)
          refine Kw.WL_v rfl rfl rfl (Kw.R_eqi (z := true) rfl rfl (decide_eq_true (by omega))) ?_
          refine Kw.WL_v rfl rfl rfl (Kw.R_pickt rfl rfl) ?_
          refine Kw.WL_v rfl rfl rfl (Kw.R_move rfl) ?_
          refine Kw.WL_v rfl rfl rfl (Kw.R_move rfl) ?_
          refine Kw.WL_call rfl rfl rfl rfl F.cl19 rfl (files_c B (fun _ => False) tb _ w63 hB hN R_dk rfl (by show (1 : Nat) ≤ 1000; omega)) ?_; rintro _ w64 ⟨⟨fa, fc, rfl⟩, bw64⟩
          replace R_dk := R_dk.call bw64; replace hB := Nat.le_trans hB bw64.size; replace hN := fun k hk => Nat.lt_of_lt_of_le (hN k hk) bw64.size
          replace HB := Kw.Below.then HB (Nat.le_refl _) bw64; clear bw64
          refine Kw.WL_v rfl rfl rfl (Kw.R_lenl (n := 1) Try.underlying38 rfl) ?_
          refine Kw.WL_v rfl rfl rfl (Kw.R_eqi (z := true) rfl rfl (decide_eq_true (by omega))) ?_
          refine Kw.WL_v rfl rfl rfl (Kw.R_pickt rfl rfl) ?_
          refine Kw.WL_v rfl rfl rfl (Kw.R_move rfl) ?_
          refine Kw.WL_v rfl rfl rfl (Kw.R_move rfl) ?_
          refine Kw.WL_v rfl rfl rfl (Kw.R_move rfl) ?_
          have hq_ := reads_c B (fun _ => False) tb (startD (faS s (sure + mm) kp)) w64 hB hN R_dk rfl hWS 1 (by unfold okI; omega) (s.extract 0 (sure + mm)) (by show some (s.data.toList.take (sure + mm)) = some _; rw [bytes_extract'])
          refine Kw.WL_callc rfl rfl rfl rfl F.cl15 rfl (hq_) ?_; intro ww hww; rw [hww]; clear hww ww
          clear hq_
          refine Kw.WL_v rfl rfl rfl (Kw.R_pickt rfl rfl) ?_
          refine Kw.WL_v rfl rfl rfl (Kw.R_move rfl) ?_
          refine Kw.WL_callc rfl rfl rfl rfl F.cl6 rfl (stored_c _) ?_; intro w66 bw66
          replace HB := Kw.Below.then HB (Nat.le_refl _) bw66
          clear bw66
          refine Kw.WL_v rfl rfl rfl (Kw.R_pickt rfl rfl) ?_
          refine Kw.WL_v rfl rfl rfl (Kw.R_assign rfl) ?_
          refine Kw.WL_nil ?_
          refine hK61 _ _ ?_; clear hK61 K61
          refine Kw.WC_sub (l' := [(6, .bool true)]) (Kw.Sub.cons rfl Kw.Sub.nil) ?_
          refine Kw.WC_ret ?_
          exact Kw.post_ret1 rfl rfl ⟨rfl, HB⟩
        ·
          refine Kw.WL_v rfl rfl rfl (Kw.R_eqi (z := false) rfl rfl (decide_eq_false c57)) ?_
          refine Kw.WL_v rfl rfl rfl (Kw.R_assign rfl) ?_
          refine Kw.WL_nil ?_
          refine hK56 _ _ ?_; clear hK56 K56
          refine Kw.WC_sub (l' := [(2, .int .u8 kp), (7, .pointer (some ⟨tb, 0, none⟩)), (10, .string s), (11, .int .i64 (sure : Int)), (65, .int .u8 r5), (78, .bool false)]) (Kw.Sub.cons rfl (Kw.Sub.cons rfl (Kw.Sub.cons rfl (Kw.Sub.cons rfl (Kw.Sub.cons rfl (Kw.Sub.cons rfl Kw.Sub.nil)))))) ?_
          refine Kw.WC_false rfl ?_
          refine Kw.WC_seq (fun K67 hK67 => ?_)
          refine Kw.WC_region [some 83, some 82] rfl ?_
          by_cases c68 : (r5 : Int) = (3 : Int)
          ·
            refine Kw.WL_v rfl rfl rfl (Kw.R_eqi (z := true) rfl rfl (decide_eq_true c68)) ?_
            refine Kw.WL_v rfl rfl rfl (Kw.R_assign rfl) ?_
            refine Kw.WL_nil ?_
            refine hK67 _ _ ?_; clear hK67 K67
            refine Kw.WC_true rfl ?_
            refine Kw.WC_region [some 84, some 85, some 14] rfl ?_
            refine Kw.WL_v rfl rfl rfl (Kw.R_move rfl) ?_
            have hrs : syncD (faD s Q 0 kp) = (61, (sinkD (tickD (faD s Q 0 kp)))) := fa_sync_sunk s Q kp
            have hq_ := sync_c B (fun _ => False) tb (faD s Q 0 kp) w16 hB hN R_dk rfl hWF (by show -1000000000 ≤ (0 : Int) ∧ (0 : Int) ≤ 1000000000; omega)
            rw [show syncD (faD s Q 0 kp) = (61, (sinkD (tickD (faD s Q 0 kp)))) from hrs] at hq_
            refine Kw.WL_callc rfl rfl rfl rfl F.cl9 rfl hq_ ?_; rintro w69 ⟨R_2, hm⟩; clear hq_
            clear R_dk; have R_dk : DK w69 B (fun _ => False) tb (sinkD (tickD (faD s Q 0 kp))) := R_2; clear R_2
            replace HB := Kw.Mut.below HB (Nat.le_refl _) hm (fun k hk => Nat.le_trans hB0 hk.1)
            replace hN := fun k hk => Nat.lt_of_lt_of_le (hN k hk) hm.size; replace hB := Nat.le_trans hB hm.size; clear hm
            refine Kw.WL_v rfl rfl rfl (Kw.R_assign rfl) ?_
            refine Kw.WL_nil ?_
            refine Kw.QN_block ?_
            refine hK32 _ _ ?_; clear hK32 K32
            refine Kw.WC_sub (l' := [(2, .int .u8 kp), (7, .pointer (some ⟨tb, 0, none⟩)), (10, .string s), (11, .int .i64 (sure : Int)), (14, .int .i64 61)]) (Kw.Sub.cons rfl (Kw.Sub.cons rfl (Kw.Sub.cons rfl (Kw.Sub.cons rfl (Kw.Sub.cons rfl Kw.Sub.nil))))) ?_
            refine Kw.WC_seq (fun K70 hK70 => ?_)
            refine Kw.WC_region [some 86, some 87, some 88, some 89, some 90, some 91, some 92, some 93, some 94, some 95, some 96, some 15] rfl ?_
            refine Kw.WL_v rfl rfl rfl (Kw.R_move rfl) ?_
            refine Kw.WL_v rfl rfl rfl (Kw.R_move rfl) ?_
            refine Kw.WL_v rfl rfl rfl (Kw.R_move rfl) ?_
            refine Kw.WL_v rfl rfl rfl (Kw.R_conv (c := kp) Try.underlying5 Try.underlying3 rfl (Kw.wrap_i64 (by omega))) ?_
            refine Kw.WL_v rfl rfl rfl (Kw.R_move rfl) ?_
            refine Kw.WL_v rfl rfl rfl (Kw.R_lens Try.underlying9 rfl) ?_
            have hfe := hF.eq; have hfl := hF.len
            obtain ⟨mm, hmm⟩ : ∃ x : Nat, min kp ((s.size : Int) - sure) = (x : Int) := ⟨(min kp ((s.size : Int) - sure)).toNat, by omega⟩
            rw [hF.sink (by omega) hmm] at R_dk
            refine Kw.WL_v rfl rfl rfl (Kw.R_move rfl) ?_
            refine Kw.WL_v rfl rfl rfl (Kw.R_sub (c := ((s.size : Int) - sure)) rfl rfl (Kw.wrap_i64 (by omega))) ?_
            refine Kw.WL_v rfl rfl rfl (Kw.R_min (c := (mm : Int)) rfl rfl (hmm)) ?_
            refine Kw.WL_v rfl rfl rfl (Kw.R_add (c := ((sure + mm : Nat) : Int)) rfl rfl (by rw [Kw.wrap_i64 (by omega)]; omega)) ?_
            refine Kw.WL_v rfl rfl rfl (Kw.R_slices (i := 0) (j := (sure + mm : Nat)) (r := (s.extract 0 (sure + mm))) Try.underlying9 rfl rfl ⟨_, rfl⟩ (by omega) (by omega) (rfl)) ?_
            refine Kw.WL_v rfl rfl rfl (Kw.R_assign rfl) ?_
            refine Kw.WL_nil ?_
            refine hK70 _ _ ?_; clear hK70 K70
            refine Kw.WC_sub (l' := [(7, .pointer (some ⟨tb, 0, none⟩)), (14, .int .i64 61), (15, .string (s.extract 0 (sure + mm)))]) (Kw.Sub.cons rfl (Kw.Sub.cons rfl (Kw.Sub.cons rfl Kw.Sub.nil))) ?_
            refine Kw.WC_seq (fun K72 hK72 => ?_)
            refine Kw.WC_region [some 97, some 98, some 99, some 100, some 101, some 102, some 103, some 104, some 105, some 106, some 107, some 108, some 109, some 110, some 111, some 112, some 113, some 114, some 115, some 116, some 117, some 118, some 119, some 120, some 121, some 122, some 6] rfl ?_
            refine Kw.WL_v rfl rfl rfl (Kw.R_move rfl) ?_
            refine Kw.WL_v rfl rfl rfl (Kw.R_eqi (z := true) rfl rfl (decide_eq_true (by omega))) ?_
            refine Kw.WL_v rfl rfl rfl (Kw.R_move rfl) ?_
            refine Kw.WL_v rfl rfl rfl (Kw.R_move rfl) ?_
            have hq_ := down_c B (fun _ => False) tb (faS s (sure + mm) kp) w69 hB hN R_dk rfl
            refine Kw.WL_callc rfl rfl rfl rfl F.cl12 rfl (hq_) ?_; intro ww hww; rw [hww]; clear hww ww
            clear hq_
            refine Kw.WL_v rfl rfl rfl (Kw.R_not rfl rfl) ?_
            refine Kw.WL_v rfl rfl rfl (Kw.R_pickt rfl rfl) ?_
            refine Kw.WL_v rfl rfl rfl (Kw.R_move rfl) ?_
            refine Kw.WL_v rfl rfl rfl (Kw.R_move rfl) ?_
            have hq_ := start_c B (fun _ => False) tb (faS s (sure + mm) kp) w69 hB hN R_dk rfl (by show (0 : Int) ≤ 0 ∧ (0 : Int) ≤ 1000000000; omega)
            refine Kw.WL_callc rfl rfl rfl rfl F.cl13 rfl hq_ ?_; rintro w74 ⟨R_2, hm⟩; clear hq_
            clear R_dk; have R_dk : DK w74 B (fun _ => False) tb (startD (faS s (sure + mm) kp)) := R_2; clear R_2
            replace HB := Kw.Mut.below HB (Nat.le_refl _) hm (fun k hk => Nat.le_trans hB0 hk.1)
            replace hN := fun k hk => Nat.lt_of_lt_of_le (hN k hk) hm.size; replace hB := Nat.le_trans hB hm.size; clear hm
            have hWS := faS.wf s (sure + mm) hkp (by omega)
            refine Kw.WL_v rfl rfl rfl (Kw.R_eqi (z := true) rfl rfl (decide_eq_true (by omega))) ?_
            refine Kw.WL_v rfl rfl rfl (Kw.R_pickt rfl rfl) ?_
            refine Kw.WL_v rfl rfl rfl (Kw.R_move rfl) ?_
            refine Kw.WL_v rfl rfl rfl (Kw.R_move rfl) ?_
            refine Kw.WL_call rfl rfl rfl rfl F.cl19 rfl (files_c B (fun _ => False) tb _ w74 hB hN R_dk rfl (by show (1 : Nat) ≤ 1000; omega)) ?_; rintro _ w75 ⟨⟨fa, fc, rfl⟩, bw75⟩
            replace R_dk := R_dk.call bw75; replace hB := Nat.le_trans hB bw75.size; replace hN := fun k hk => Nat.lt_of_lt_of_le (hN k hk) bw75.size
            replace HB := Kw.Below.then HB (Nat.le_refl _) bw75; clear bw75
            refine Kw.WL_v rfl rfl rfl (Kw.R_lenl (n := 1) Try.underlying38 rfl) ?_
            refine Kw.WL_v rfl rfl rfl (Kw.R_eqi (z := true) rfl rfl (decide_eq_true (by omega))) ?_
            refine Kw.WL_v rfl rfl rfl (Kw.R_pickt rfl rfl) ?_
            refine Kw.WL_v rfl rfl rfl (Kw.R_move rfl) ?_
            refine Kw.WL_v rfl rfl rfl (Kw.R_move rfl) ?_
            refine Kw.WL_v rfl rfl rfl (Kw.R_move rfl) ?_
            have hq_ := reads_c B (fun _ => False) tb (startD (faS s (sure + mm) kp)) w75 hB hN R_dk rfl hWS 1 (by unfold okI; omega) (s.extract 0 (sure + mm)) (by show some (s.data.toList.take (sure + mm)) = some _; rw [bytes_extract'])
            refine Kw.WL_callc rfl rfl rfl rfl F.cl15 rfl (hq_) ?_; intro ww hww; rw [hww]; clear hww ww
            clear hq_
            refine Kw.WL_v rfl rfl rfl (Kw.R_pickt rfl rfl) ?_
            refine Kw.WL_v rfl rfl rfl (Kw.R_move rfl) ?_
            refine Kw.WL_callc rfl rfl rfl rfl F.cl6 rfl (stored_c _) ?_; intro w77 bw77
            replace HB := Kw.Below.then HB (Nat.le_refl _) bw77
            clear bw77
            refine Kw.WL_v rfl rfl rfl (Kw.R_pickt rfl rfl) ?_
            refine Kw.WL_v rfl rfl rfl (Kw.R_assign rfl) ?_
            refine Kw.WL_nil ?_
            refine hK72 _ _ ?_; clear hK72 K72
            refine Kw.WC_sub (l' := [(6, .bool true)]) (Kw.Sub.cons rfl Kw.Sub.nil) ?_
            refine Kw.WC_ret ?_
            exact Kw.post_ret1 rfl rfl ⟨rfl, HB⟩
          ·
            refine Kw.WL_v rfl rfl rfl (Kw.R_eqi (z := false) rfl rfl (decide_eq_false c68)) ?_
            refine Kw.WL_v rfl rfl rfl (Kw.R_assign rfl) ?_
            refine Kw.WL_nil ?_
            refine hK67 _ _ ?_; clear hK67 K67
            refine Kw.WC_false rfl ?_
            refine Kw.WC_seq (fun K78 hK78 => ?_)
            refine Kw.WC_region [some 66, some 67, some 14] rfl ?_
            refine Kw.WL_v rfl rfl rfl (Kw.R_move rfl) ?_
            have hap : appendD (faD s Q 0 kp) 1 s.data.toList (⟨#[122]⟩ : ByteArray).data.toList = (61, (sinkD (tickD (faD (s ++ ⟨#[122]⟩) (Q ++ [(1, (⟨#[122]⟩ : ByteArray).size)]) 0 kp)))) := fa_append_sunk s _ Q kp
            have hq_ := append_c B (fun _ => False) tb (faD s Q 0 kp) w16 hB hN R_dk rfl (hF.wf (by omega) _ hkp) (by show -1000000000 ≤ (0 : Int) ∧ (0 : Int) ≤ 1000000000; omega) (by show (0 : Int) ≤ 3000 ∧ (3000 : Int) ≤ 1048576; omega) 1 (by unfold okI; omega) s.data.toList rfl ⟨#[122]⟩ (by unfold freeD faD; dsimp only; rw [show filesLen [((1 : Int), s.data.toList)] = s.data.toList.length + 0 from rfl, size_list]; have h2 : (⟨#[122]⟩ : ByteArray).size ≤ 2 := (by decide); omega) (by show Q.length < 1000000; omega) (by show looseAll Q + (⟨#[122]⟩ : ByteArray).size ≤ 1000000000; have h2 : (⟨#[122]⟩ : ByteArray).size ≤ 2 := (by decide); omega)
            rw [show appendD (faD s Q 0 kp) 1 s.data.toList (⟨#[122]⟩ : ByteArray).data.toList = (61, (sinkD (tickD (faD (s ++ ⟨#[122]⟩) (Q ++ [(1, (⟨#[122]⟩ : ByteArray).size)]) 0 kp)))) from hap] at hq_
            refine Kw.WL_callc rfl rfl rfl rfl F.cl10 rfl hq_ ?_; rintro w79 ⟨R_2, hm⟩; clear hq_
            clear R_dk; have R_dk : DK w79 B (fun _ => False) tb (sinkD (tickD (faD (s ++ ⟨#[122]⟩) (Q ++ [(1, (⟨#[122]⟩ : ByteArray).size)]) 0 kp))) := R_2; clear R_2
            replace HB := Kw.Mut.below HB (Nat.le_refl _) hm (fun k hk => Nat.le_trans hB0 hk.1)
            replace hN := fun k hk => Nat.lt_of_lt_of_le (hN k hk) hm.size; replace hB := Nat.le_trans hB hm.size; clear hm
            have hF2 := hF.append ⟨#[122]⟩ (by decide)
            refine Kw.WL_v rfl rfl rfl (Kw.R_assign rfl) ?_
            refine Kw.WL_nil ?_
            refine hK78 _ _ ?_; clear hK78 K78
            refine Kw.WC_sub (l' := [(2, .int .u8 kp), (7, .pointer (some ⟨tb, 0, none⟩)), (10, .string s), (11, .int .i64 (sure : Int)), (14, .int .i64 61)]) (Kw.Sub.cons rfl (Kw.Sub.cons rfl (Kw.Sub.cons rfl (Kw.Sub.cons rfl (Kw.Sub.cons rfl Kw.Sub.nil))))) ?_
            refine Kw.WC_region [some 68, some 69, some 10] rfl ?_
            refine Kw.WL_v rfl rfl rfl (Kw.R_move rfl) ?_
            refine Kw.WL_v rfl rfl rfl (Kw.R_adds (r := (s ++ ⟨#[122]⟩)) rfl rfl (by have h2 : (⟨#[122]⟩ : ByteArray).size ≤ 2 := (by decide); omega) (rfl)) ?_
            refine Kw.WL_v rfl rfl rfl (Kw.R_assign rfl) ?_
            refine Kw.WL_nil ?_
            refine Kw.QN_block ?_
            refine hK32 _ _ ?_; clear hK32 K32
            refine Kw.WC_seq (fun K80 hK80 => ?_)
            refine Kw.WC_region [some 86, some 87, some 88, some 89, some 90, some 91, some 92, some 93, some 94, some 95, some 96, some 15] rfl ?_
            refine Kw.WL_v rfl rfl rfl (Kw.R_move rfl) ?_
            refine Kw.WL_v rfl rfl rfl (Kw.R_move rfl) ?_
            refine Kw.WL_v rfl rfl rfl (Kw.R_move rfl) ?_
            refine Kw.WL_v rfl rfl rfl (Kw.R_conv (c := kp) Try.underlying5 Try.underlying3 rfl (Kw.wrap_i64 (by omega))) ?_
            refine Kw.WL_v rfl rfl rfl (Kw.R_move rfl) ?_
            refine Kw.WL_v rfl rfl rfl (Kw.R_lens Try.underlying9 rfl) ?_
            have hfe := hF2.eq; have hfl := hF2.len
            obtain ⟨mm, hmm⟩ : ∃ x : Nat, min kp (((s ++ ⟨#[122]⟩).size : Int) - sure) = (x : Int) := ⟨(min kp (((s ++ ⟨#[122]⟩).size : Int) - sure)).toNat, by omega⟩
            rw [hF2.sink (by omega) hmm] at R_dk
            refine Kw.WL_v rfl rfl rfl (Kw.R_move rfl) ?_
            refine Kw.WL_v rfl rfl rfl (Kw.R_sub (c := (((s ++ ⟨#[122]⟩).size : Int) - sure)) rfl rfl (Kw.wrap_i64 (by omega))) ?_
            refine Kw.WL_v rfl rfl rfl (Kw.R_min (c := (mm : Int)) rfl rfl (hmm)) ?_
            refine Kw.WL_v rfl rfl rfl (Kw.R_add (c := ((sure + mm : Nat) : Int)) rfl rfl (by rw [Kw.wrap_i64 (by omega)]; omega)) ?_
            refine Kw.WL_v rfl rfl rfl (Kw.R_slices (i := 0) (j := (sure + mm : Nat)) (r := ((s ++ ⟨#[122]⟩).extract 0 (sure + mm))) Try.underlying9 rfl rfl ⟨_, rfl⟩ (by omega) (by omega) (rfl)) ?_
            refine Kw.WL_v rfl rfl rfl (Kw.R_assign rfl) ?_
            refine Kw.WL_nil ?_
            refine hK80 _ _ ?_; clear hK80 K80
            refine Kw.WC_sub (l' := [(7, .pointer (some ⟨tb, 0, none⟩)), (14, .int .i64 61), (15, .string ((s ++ ⟨#[122]⟩).extract 0 (sure + mm)))]) (Kw.Sub.cons rfl (Kw.Sub.cons rfl (Kw.Sub.cons rfl Kw.Sub.nil))) ?_
            refine Kw.WC_seq (fun K82 hK82 => ?_)
            refine Kw.WC_region [some 97, some 98, some 99, some 100, some 101, some 102, some 103, some 104, some 105, some 106, some 107, some 108, some 109, some 110, some 111, some 112, some 113, some 114, some 115, some 116, some 117, some 118, some 119, some 120, some 121, some 122, some 6] rfl ?_
            refine Kw.WL_v rfl rfl rfl (Kw.R_move rfl) ?_
            refine Kw.WL_v rfl rfl rfl (Kw.R_eqi (z := true) rfl rfl (decide_eq_true (by omega))) ?_
            refine Kw.WL_v rfl rfl rfl (Kw.R_move rfl) ?_
            refine Kw.WL_v rfl rfl rfl (Kw.R_move rfl) ?_
            have hq_ := down_c B (fun _ => False) tb (faS (s ++ ⟨#[122]⟩) (sure + mm) kp) w79 hB hN R_dk rfl
            refine Kw.WL_callc rfl rfl rfl rfl F.cl12 rfl (hq_) ?_; intro ww hww; rw [hww]; clear hww ww
            clear hq_
            refine Kw.WL_v rfl rfl rfl (Kw.R_not rfl rfl) ?_
            refine Kw.WL_v rfl rfl rfl (Kw.R_pickt rfl rfl) ?_
            refine Kw.WL_v rfl rfl rfl (Kw.R_move rfl) ?_
            refine Kw.WL_v rfl rfl rfl (Kw.R_move rfl) ?_
            have hq_ := start_c B (fun _ => False) tb (faS (s ++ ⟨#[122]⟩) (sure + mm) kp) w79 hB hN R_dk rfl (by show (0 : Int) ≤ 0 ∧ (0 : Int) ≤ 1000000000; omega)
            refine Kw.WL_callc rfl rfl rfl rfl F.cl13 rfl hq_ ?_; rintro w84 ⟨R_2, hm⟩; clear hq_
            clear R_dk; have R_dk : DK w84 B (fun _ => False) tb (startD (faS (s ++ ⟨#[122]⟩) (sure + mm) kp)) := R_2; clear R_2
            replace HB := Kw.Mut.below HB (Nat.le_refl _) hm (fun k hk => Nat.le_trans hB0 hk.1)
            replace hN := fun k hk => Nat.lt_of_lt_of_le (hN k hk) hm.size; replace hB := Nat.le_trans hB hm.size; clear hm
            have hWS := faS.wf (s ++ ⟨#[122]⟩) (sure + mm) hkp (by omega)
            refine Kw.WL_v rfl rfl rfl (Kw.R_eqi (z := true) rfl rfl (decide_eq_true (by omega))) ?_
            refine Kw.WL_v rfl rfl rfl (Kw.R_pickt rfl rfl) ?_
            refine Kw.WL_v rfl rfl rfl (Kw.R_move rfl) ?_
            refine Kw.WL_v rfl rfl rfl (Kw.R_move rfl) ?_
            refine Kw.WL_call rfl rfl rfl rfl F.cl19 rfl (files_c B (fun _ => False) tb _ w84 hB hN R_dk rfl (by show (1 : Nat) ≤ 1000; omega)) ?_; rintro _ w85 ⟨⟨fa, fc, rfl⟩, bw85⟩
            replace R_dk := R_dk.call bw85; replace hB := Nat.le_trans hB bw85.size; replace hN := fun k hk => Nat.lt_of_lt_of_le (hN k hk) bw85.size
            replace HB := Kw.Below.then HB (Nat.le_refl _) bw85; clear bw85
            refine Kw.WL_v rfl rfl rfl (Kw.R_lenl (n := 1) Try.underlying38 rfl) ?_
            refine Kw.WL_v rfl rfl rfl (Kw.R_eqi (z := true) rfl rfl (decide_eq_true (by omega))) ?_
            refine Kw.WL_v rfl rfl rfl (Kw.R_pickt rfl rfl) ?_
            refine Kw.WL_v rfl rfl rfl (Kw.R_move rfl) ?_
            refine Kw.WL_v rfl rfl rfl (Kw.R_move rfl) ?_
            refine Kw.WL_v rfl rfl rfl (Kw.R_move rfl) ?_
            have hq_ := reads_c B (fun _ => False) tb (startD (faS (s ++ ⟨#[122]⟩) (sure + mm) kp)) w85 hB hN R_dk rfl hWS 1 (by unfold okI; omega) ((s ++ ⟨#[122]⟩).extract 0 (sure + mm)) (by show some ((s ++ ⟨#[122]⟩).data.toList.take (sure + mm)) = some _; rw [bytes_extract'])
            refine Kw.WL_callc rfl rfl rfl rfl F.cl15 rfl (hq_) ?_; intro ww hww; rw [hww]; clear hww ww
            clear hq_
            refine Kw.WL_v rfl rfl rfl (Kw.R_pickt rfl rfl) ?_
            refine Kw.WL_v rfl rfl rfl (Kw.R_move rfl) ?_
            refine Kw.WL_callc rfl rfl rfl rfl F.cl6 rfl (stored_c _) ?_; intro w87 bw87
            replace HB := Kw.Below.then HB (Nat.le_refl _) bw87
            clear bw87
            refine Kw.WL_v rfl rfl rfl (Kw.R_pickt rfl rfl) ?_
            refine Kw.WL_v rfl rfl rfl (Kw.R_assign rfl) ?_
            refine Kw.WL_nil ?_
            refine hK82 _ _ ?_; clear hK82 K82
            refine Kw.WC_sub (l' := [(6, .bool true)]) (Kw.Sub.cons rfl Kw.Sub.nil) ?_
            refine Kw.WC_ret ?_
            exact Kw.post_ret1 rfl rfl ⟨rfl, HB⟩
end Go.Proofs.Ytcmgeadakncgmaa.Fn
