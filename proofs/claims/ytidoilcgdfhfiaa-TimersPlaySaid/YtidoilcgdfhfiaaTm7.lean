/- The reference's Due. -/
import Derived.Test.YtidoilcgdfhfiaaTm6
namespace Go.Proofs.Ytidoilcgdfhfiaa.Fn
open Go Go.Proofs Go.RowKit
set_option linter.unusedVariables false
set_option linter.unusedSimpArgs false
theorem RdT.call {w w' : World} {v : Value} {R : List ((Int × Int) × Int)} (h : RdT w v R) (hb : Below w.heap.size w w') : RdT w' v R := by
  obtain ⟨a, cap, rfl, h1, h2, h3⟩ := h
  refine ⟨a, cap, rfl, h1, h2, ?_⟩
  rcases h3 with h3 | ⟨g, o, cur, rfl, hA, hc⟩
  · exact .inl h3
  · exact .inr ⟨g, o, cur, rfl, hA.call hb, hc⟩
theorem RdT.tail {w : World} {g o o2 cap : Nat} {cur : Array Value} {S : List ((Int × Int) × Int)} (hA : Kw.At w g cur 59) (hc : (cur.toList.drop o).take (S.length * 3) = flatT S) (hle : S.length ≤ cap) (hmx : cap ≤ maxLen) (h0 : 0 < S.length) (he : (if cap = 1 then o else o + 1 * 3) = o2) :
    RdT w (.slice (some ⟨g, o2, none⟩) (S.length - 1) (cap - 1)) (S.drop 1) := by
  have hp := Kw.piece (i := 1) (j := S.length) (m := cap) (s := 3) (o' := o2) hc (by omega) (Nat.le_refl _) hle he
  rw [show 1 * 3 = 1 * 3 from rfl, flatT_drop] at hp
  refine ⟨_, _, by rw [List.length_drop], by rw [List.length_drop]; omega, by omega, .inr ⟨g, o2, cur, rfl, hA, ?_⟩⟩
  rw [List.length_drop, hp, List.take_of_length_le (by rw [flatT_length, List.length_drop]; omega)]

set_option maxRecDepth 100000 in
set_option maxHeartbeats 4000000 in
theorem refdue_c (R : List ((Int × Int) × Int)) (hsz : R.length ≤ 1000000) (v0 : Value) (now : Int) (w : World) (S0 : RdT w v0 R) : Calls Try.prog 13 #[v0, .int .i64 now] w (Kw.Back fun u w' => (∃ i v lv, u = .tuple #[v, lv] ∧ i ≤ R.length ∧ (∀ p ∈ R.take i, p.2 ≤ now) ∧ (∀ h : i < R.length, ¬ (R[i]'h).2 ≤ now) ∧ Kw.Own w' w.heap.size 28 2 v ((R.take i).map (·.1)).length (flatP ((R.take i).map (·.1))) ∧ RdT w' lv (R.drop i)) ∧ Below w.heap.size w w') := by
  have HB : Below w.heap.size w w := Below.refl _ _
  refine Kw.enter Try.func13 rfl Try.ntmps13 rfl rfl ?_
  refine Kw.WC_seq (fun K1 hK1 => ?_)
  refine Kw.WC_region [some 4, some 5] rfl ?_
  refine Kw.WL_v rfl rfl rfl (Kw.R_assign rfl) ?_
  refine Kw.WL_v rfl rfl rfl (Kw.R_assign rfl) ?_
  refine Kw.WL_nil ?_
  refine hK1 _ _ ?_; clear hK1 K1
  refine Kw.WC_seq (fun K2 hK2 => ?_)
  refine Kw.WC_region [some 6] rfl ?_
  refine Kw.WL_v rfl rfl rfl (Kw.R_assign rfl) ?_
  refine Kw.WL_nil ?_
  refine hK2 _ _ ?_; clear hK2 K2
  refine Kw.WC_seq (fun K3 hK3 => ?_)
  refine Kw.WC_block ?_
  refine Kw.WC_loop (ι := Nat × Value × Value) (fun (q : Nat × Value × Value) (ww : World) => match q with | ⟨i, v, lv⟩ => (i ≤ R.length ∧ RdT w lv (R.drop i) ∧ ∀ p ∈ R.take i, p.2 ≤ now) ∧ Kw.Own ww w.heap.size 28 2 v (((R.take i).map (·.1)).length) (flatP ((R.take i).map (·.1))) ∧ Below w.heap.size w ww) (fun (q : Nat × Value × Value) => match q with | ⟨i, v, lv⟩ => [(0, lv), (1, .int .i64 now), (6, v)]) (fun (q : Nat × Value × Value) => match q with | ⟨i, v, lv⟩ => R.length - i) (0, .slice none 0 0, v0) ⟨⟨Nat.zero_le _, S0, fun p hp => by cases hp⟩, (Kw.Own.nil _ _ _ _), HB⟩ (Kw.Sub.cons rfl (Kw.Sub.cons rfl (Kw.Sub.cons rfl Kw.Sub.nil))) ?_
  clear HB
  rintro ⟨i, v, lv⟩ w4 ⟨⟨hi, hRd, hq⟩, O_v, HB⟩
  dsimp only at *
  obtain ⟨S, hS⟩ : ∃ S, S = R.drop i := ⟨_, rfl⟩
  rw [← hS] at hRd
  have hSl : S.length = R.length - i := by rw [hS, List.length_drop]
  obtain ⟨a1, cap1, rfl, hle, hmx, hR⟩ := hRd
  refine Kw.WC_seq (fun K5 hK5 => ?_)
  refine Kw.WC_seq (fun K6 hK6 => ?_)
  refine Kw.WC_region [some 7, some 8, some 9, some 10, some 11, some 12, some 13, some 14, some 15, some 16, some 17] rfl ?_
  refine Kw.WL_v rfl rfl rfl (Kw.R_move rfl) ?_
  refine Kw.WL_v rfl rfl rfl (Kw.R_lenl (n := S.length) Try.underlying38 rfl) ?_
  by_cases c7 : (0 : Int) < (S.length : Int)
  ·
    refine Kw.WL_v rfl rfl rfl (Kw.R_gtr (z := true) rfl rfl (decide_eq_true c7)) ?_
    refine Kw.WL_v rfl rfl rfl (Kw.R_move rfl) ?_
    refine Kw.WL_v rfl rfl rfl (Kw.R_move rfl) ?_
    have hi2 : 0 < S.length := by omega
    obtain ⟨p, hp⟩ : ∃ p, p = S[0]'hi2 := ⟨_, rfl⟩
    have hiR : i < R.length := by omega
    have hpR : p = R[i]'hiR := by rw [hp]; simp only [hS, List.getElem_drop, Nat.add_zero]
    rcases hR with h0 | ⟨g1, o1, cur1, rfl, A_1, hc1⟩
    · rw [h0] at hi2; exact absurd hi2 (Nat.not_lt_zero _)
    have A_g1 := A_1.call HB
    obtain ⟨hz1, hz2, hz3, hz4⟩ := rdT_at hc1 hi2
    rw [← hp] at hz2 hz3 hz4
    have D_v_g1 : Kw.ob v ≠ some g1 := fun e => absurd (O_v.ge e) (Nat.not_le_of_lt A_1.lt)
    refine Kw.WL_v rfl rfl rfl (Kw.R_indexAddrS (i := 0) (b := g1) (o := o1) (o' := o1 + 0 * 3) rfl rfl Try.underlying38 F.sz59 (by omega) (by omega)) ?_
    refine Kw.WL_v rfl rfl rfl (Kw.R_fieldAddr (o' := o1 + 0 * 3 + 2) (k := 0) rfl Try.underlying59 rfl F.sz3 rfl) ?_
    refine Kw.WL_v rfl rfl rfl (Kw.R_load1 (v := .int .i64 p.2) rfl Try.underlying3 rfl A_g1 hz4) ?_
    refine Kw.WL_v rfl rfl rfl (Kw.R_move rfl) ?_
    by_cases c8 : (p.2 : Int) ≤ now
    ·
      refine Kw.WL_v rfl rfl rfl (Kw.R_leq (z := true) rfl rfl (decide_eq_true c8)) ?_
      have hle2 : p.2 ≤ now := by assumption
      refine Kw.WL_v rfl rfl rfl (Kw.R_pickt rfl rfl) ?_
      refine Kw.WL_nil ?_
      refine hK6 _ _ ?_; clear hK6 K6
      refine Kw.WC_true rfl ?_
      refine Kw.WC_skip ?_
      refine hK5 _ _ ?_; clear hK5 K5
      refine Kw.WC_block ?_
      refine Kw.WC_sched (fun ww => Kw.At ww g1 cur1 59 ∧ True) [(0, true), (1, true), (2, true), (3, true), (4, true), (7, true), (8, true), (5, false), (6, false), (9, true), (10, true)] [some 18, some 19, some 20, some 21, some 22, some 23, some 24, some 25, some 26, some 6, some 0] rfl (by kernel_rfl) rfl (by kernel_rfl) ?_
      obtain ⟨w9, hww9⟩ : ∃ x : World, x = Go.World.drew w4 := ⟨_, rfl⟩
      rw [← hww9]
      replace A_g1 : Kw.At w9 g1 cur1 59 := by rw [hww9]; exact A_g1
      replace O_v := O_v.drew; rw [← hww9] at O_v
      replace HB : Below w.heap.size w w9 := by rw [hww9]; exact HB.drew
      clear hww9
      have hS : Kw.At w9 g1 cur1 59 ∧ True := ⟨A_g1, trivial⟩
      refine Kw.WX_take rfl rfl rfl rfl (fun _ _ _ h => h) hS (fun _ ⟨A_g1, _⟩ => Kw.R_move rfl) ?_
      refine Kw.WX_take rfl rfl rfl rfl (fun _ _ _ h => h) hS (fun _ ⟨A_g1, _⟩ => Kw.R_move rfl) ?_
      refine Kw.WX_take rfl rfl rfl rfl (fun _ _ _ h => h) hS (fun _ ⟨A_g1, _⟩ => Kw.R_indexAddrS (i := 0) (b := g1) (o := o1) (o' := o1 + 0 * 3) rfl rfl Try.underlying38 F.sz59 (by omega) (by omega)) ?_
      refine Kw.WX_take rfl rfl rfl rfl (fun _ _ _ h => h) hS (fun _ ⟨A_g1, _⟩ => Kw.R_fieldAddr (o' := o1 + 0 * 3 + 0) (k := 1) rfl Try.underlying59 rfl F.sz28 rfl) ?_
      refine Kw.WX_take rfl rfl rfl rfl (fun _ _ _ h => h) hS (fun _ ⟨A_g1, _⟩ => Kw.R_loadN (ds := #[.int .i64 p.1.1, .int .i64 p.1.2]) rfl Try.underlying28 rfl F.sz28 A_g1 (by omega) hz2) ?_
      refine Kw.WX_take rfl rfl rfl rfl (fun _ _ _ h => h) hS (fun _ ⟨A_g1, _⟩ => Kw.R_move rfl) ?_
      obtain ⟨oq, hoq⟩ : ∃ x : Nat, (if cap1 = 1 then o1 else o1 + 1 * 3) = x := ⟨_, rfl⟩
      refine Kw.WX_take rfl rfl rfl rfl (fun _ _ _ h => h) hS (fun _ ⟨A_g1, _⟩ => Kw.R_slicel (i := 1) (j := S.length) (m := cap1) (o' := oq) rfl Try.underlying38 F.sz59 ⟨_, rfl⟩ rfl rfl (by omega) (by omega) (by omega) rfl (hoq)) ?_
      obtain ⟨g23, w10, N_g23⟩ : ∃ b_ w2_, Kw.Newb w9 b_ #[.int .i64 p.1.1, .int .i64 p.1.2] 28 w2_ := ⟨_, _, rfl, rfl⟩
      have R_g23 := fun (l : Kw.Env) (h : Kw.evsP l [(0, .tmp 22)] = some [(0, .agg #[.int .i64 p.1.1, .int .i64 p.1.2])]) => Kw.R_buildSlice (P := Try.prog) (l := l) (D := some 23) (T := 43) (S := "ref.go:57") (F := #[⟨4, .data⟩]) (g := none) (t := 43) (len := 1) h (fun w => by kernel_rfl) N_g23
      have L_g1_g23 := N_g23.ne A_g1; replace A_g1 := N_g23.keep A_g1
      have A_g23 : Kw.At w10 g23 #[.int .i64 p.1.1, .int .i64 p.1.2] 28 := N_g23.at_
      have D_v_g23 := O_v.ne_new N_g23; replace O_v := O_v.new N_g23
      have G_g23 := N_g23.ge HB (Nat.le_refl _); replace HB := N_g23.below HB (Nat.le_refl _); clear N_g23
      clear hS; have hS : Kw.At w10 g1 cur1 59 ∧ True := ⟨A_g1, trivial⟩
      refine Kw.WX_v rfl rfl rfl rfl (R_g23 _ rfl) hS ?_; clear R_g23
      refine Kw.WX_append rfl rfl rfl rfl rfl Try.underlying43 Try.underlying43 (.inr ⟨_, rfl⟩) F.sz28 F.by28 F.ze28 rfl O_v (Kw.News.row (news := [.int .i64 p.1.1, .int .i64 p.1.2]) A_g23 rfl rfl (by simp [Value.oneCell'])) (by unfold maxLen; rw [List.length_map, List.length_take]; omega) (by rw [List.length_map, List.length_take]; omega) HB.size ?_; intro v24 w11 O_v24 R_v24
      have D_v24_g1 := R_v24.ne A_g1 D_v_g1
      replace A_g1 := R_v24.keep A_g1 D_v_g1
      have D_v24_g23 := R_v24.ne A_g23 D_v_g23
      replace A_g23 := R_v24.keep A_g23 D_v_g23
      replace HB := R_v24.below HB (Nat.le_refl _) (fun g hg => O_v.ge hg); clear R_v24
      replace O_v24 : Kw.Own w11 w.heap.size 28 2 v24 (((R.take (i + 1)).map (·.1)).length) (flatP ((R.take (i + 1)).map (·.1))) := by rw [take_snoc hiR, ← hpR, List.map_append, List.length_append, show [p].map (·.1) = [p.1] from rfl, flatP_snoc]; exact O_v24
      clear O_v
      clear A_g23
      clear hS; have hS : Kw.At w11 g1 cur1 59 ∧ True := ⟨A_g1, trivial⟩
      refine ⟨hS, ?_⟩
      refine Kw.WX_take rfl rfl rfl rfl (fun _ _ _ h => h) hS (fun _ ⟨A_g1, _⟩ => Kw.R_assign rfl) ?_
      refine Kw.WX_take rfl rfl rfl rfl (fun _ _ _ h => h) hS (fun _ ⟨A_g1, _⟩ => Kw.R_assign rfl) ?_
      refine Kw.WX_nil ?_
      clear hS
      refine Kw.QN_block ?_
      refine Kw.QN_round ((i + 1, v24, .slice (some ⟨g1, oq, none⟩) (S.length - 1) (cap1 - 1))) ⟨⟨by (try dsimp only); omega, by rw [show R.drop (i + 1) = S.drop 1 by rw [hS, List.drop_drop]]; exact RdT.tail A_1 hc1 hle hmx hi2 hoq, take_all hiR hq (by rw [← hpR]; exact hle2)⟩, O_v24, HB⟩ (by dsimp only; omega) (Kw.Sub.cons rfl (Kw.Sub.cons rfl (Kw.Sub.cons rfl Kw.Sub.nil)))
    ·
      refine Kw.WL_v rfl rfl rfl (Kw.R_leq (z := false) rfl rfl (decide_eq_false c8)) ?_
      refine Kw.WL_v rfl rfl rfl (Kw.R_pickt rfl rfl) ?_
      refine Kw.WL_nil ?_
      refine hK6 _ _ ?_; clear hK6 K6
      refine Kw.WC_false rfl ?_
      refine Kw.WC_exit ?_
      refine Kw.QE_then ?_; clear hK5 K5
      refine Kw.QE_then ?_
      refine Kw.QE_here ?_
      refine hK3 _ _ ?_; clear hK3 K3
      refine Kw.WC_sub (l' := [(0, .slice (some ⟨g1, o1, none⟩) S.length cap1), (6, v)]) (Kw.Sub.cons rfl (Kw.Sub.cons rfl Kw.Sub.nil)) ?_
      refine Kw.WC_seq (fun K12 hK12 => ?_)
      refine Kw.WC_region [some 27, some 28, some 4, some 5] rfl ?_
      refine Kw.WL_v rfl rfl rfl (Kw.R_move rfl) ?_
      refine Kw.WL_v rfl rfl rfl (Kw.R_move rfl) ?_
      refine Kw.WL_v rfl rfl rfl (Kw.R_assign rfl) ?_
      refine Kw.WL_v rfl rfl rfl (Kw.R_assign rfl) ?_
      refine Kw.WL_nil ?_
      refine hK12 _ _ ?_; clear hK12 K12
      refine Kw.WC_ret ?_
      exact Kw.post_ret2 rfl rfl rfl ⟨_, rfl, ⟨i, v, _, rfl, hi, hq, fun h => by rw [← hpR]; assumption, O_v, by rw [← hS]; exact RdT.call ⟨_, cap1, rfl, hle, hmx, .inr ⟨g1, o1, cur1, rfl, A_1, hc1⟩⟩ HB⟩, HB⟩
  ·
    refine Kw.WL_v rfl rfl rfl (Kw.R_gtr (z := false) rfl rfl (decide_eq_false c7)) ?_
    refine Kw.WL_v rfl rfl rfl (Kw.R_move rfl) ?_
    refine Kw.WL_off rfl rfl rfl ?_
    refine Kw.WL_off rfl rfl rfl ?_
    refine Kw.WL_off rfl rfl rfl ?_
    refine Kw.WL_off rfl rfl rfl ?_
    refine Kw.WL_off rfl rfl rfl ?_
    refine Kw.WL_off rfl rfl rfl ?_
    refine Kw.WL_v rfl rfl rfl (Kw.R_pickf rfl rfl) ?_
    refine Kw.WL_nil ?_
    refine hK6 _ _ ?_; clear hK6 K6
    refine Kw.WC_false rfl ?_
    refine Kw.WC_exit ?_
    refine Kw.QE_then ?_; clear hK5 K5
    refine Kw.QE_then ?_
    refine Kw.QE_here ?_
    refine hK3 _ _ ?_; clear hK3 K3
    refine Kw.WC_sub (l' := [(0, .slice a1 S.length cap1), (6, v)]) (Kw.Sub.cons rfl (Kw.Sub.cons rfl Kw.Sub.nil)) ?_
    refine Kw.WC_seq (fun K13 hK13 => ?_)
    refine Kw.WC_region [some 27, some 28, some 4, some 5] rfl ?_
    refine Kw.WL_v rfl rfl rfl (Kw.R_move rfl) ?_
    refine Kw.WL_v rfl rfl rfl (Kw.R_move rfl) ?_
    refine Kw.WL_v rfl rfl rfl (Kw.R_assign rfl) ?_
    refine Kw.WL_v rfl rfl rfl (Kw.R_assign rfl) ?_
    refine Kw.WL_nil ?_
    refine hK13 _ _ ?_; clear hK13 K13
    refine Kw.WC_ret ?_
    exact Kw.post_ret2 rfl rfl rfl ⟨_, rfl, ⟨i, v, _, rfl, hi, hq, fun h => by omega, O_v, by rw [← hS]; exact RdT.call ⟨a1, cap1, rfl, hle, hmx, hR⟩ HB⟩, HB⟩
end Go.Proofs.Ytidoilcgdfhfiaa.Fn
