/- DiskOrder answers true. -/
import Derived.Test.YtcmgeadakncgmaaDo
namespace Go.Proofs.Ytcmgeadakncgmaa.Fn
open Go Go.Proofs Go.RowKit
set_option linter.unusedVariables false
set_option linter.unusedSimpArgs false
set_option maxRecDepth 100000 in
set_option maxHeartbeats 4000000 in
theorem DiskOrder_c (a1 : Option Addr) (cap1 : Nat) (L : List Scrap) (q kp : Int) (hq : 0 ≤ q ∧ q ≤ 255) (hkp : okI kp) (w : World) (hRS : RdS w a1 L) : Calls Try.prog 3 #[.slice a1 L.length cap1, .int .u8 q, .int .i64 kp] w fun e w' => e = .returned (.bool true) ∧ Below w.heap.size w w' := by
  have HB : Below w.heap.size w w := Below.refl _ _
  refine Kw.enter Try.func3 rfl Try.ntmps3 rfl rfl ?_
  refine Kw.WC_seq (fun K1 hK1 => ?_)
  refine Kw.WC_region [some 6] rfl ?_
  refine Kw.WL_v rfl rfl rfl (Kw.R_assign rfl) ?_
  refine Kw.WL_nil ?_
  refine hK1 _ _ ?_; clear hK1 K1
  refine Kw.WC_seq (fun K2 hK2 => ?_)
  refine Kw.WC_seq (fun K3 hK3 => ?_)
  refine Kw.WC_region [some 17, some 18, some 19] rfl ?_
  refine Kw.WL_v rfl rfl rfl (Kw.R_move rfl) ?_
  refine Kw.WL_v rfl rfl rfl (Kw.R_lenl (n := L.length) Try.underlying22 rfl) ?_
  by_cases c4 : (30 : Int) < (L.length : Int)
  ·
    refine Kw.WL_v rfl rfl rfl (Kw.R_gtr (z := true) rfl rfl (decide_eq_true c4)) ?_
    refine Kw.WL_nil ?_
    refine hK3 _ _ ?_; clear hK3 K3
    refine Kw.WC_true rfl ?_
    refine Kw.WC_seq (fun K5 hK5 => ?_)
    refine Kw.WC_region [some 20, some 6] rfl ?_
    refine Kw.WL_callc rfl rfl rfl rfl F.cl6 rfl (stored_c _) ?_; intro w6 bw6
    replace HB := Kw.Below.then HB (Nat.le_refl _) bw6
    clear bw6
    refine Kw.WL_v rfl rfl rfl (Kw.R_assign rfl) ?_
    refine Kw.WL_nil ?_
    refine hK5 _ _ ?_; clear hK5 K5
    refine Kw.WC_sub (l' := [(6, .bool true)]) (Kw.Sub.cons rfl Kw.Sub.nil) ?_
    refine Kw.WC_ret ?_
    refine Kw.QR_then ?_; clear hK2 K2
    exact Kw.post_ret1 rfl rfl ⟨rfl, HB⟩
  ·
    refine Kw.WL_v rfl rfl rfl (Kw.R_gtr (z := false) rfl rfl (decide_eq_false c4)) ?_
    refine Kw.WL_nil ?_
    refine hK3 _ _ ?_; clear hK3 K3
    refine Kw.WC_false rfl ?_
    refine Kw.WC_skip ?_
    refine hK2 _ _ ?_; clear hK2 K2
    refine Kw.WC_seq (fun K7 hK7 => ?_)
    refine Kw.WC_region [some 22, some 21, some 23, some 24, some 7, some 8] rfl ?_
    refine Kw.WL_call rfl rfl rfl rfl F.cl7 rfl (new_c 3000 (by omega) w) ?_; rintro _ w8 ⟨⟨tb, rfl, R_dk⟩, bw8⟩
    obtain ⟨B, hBe⟩ : ∃ B, B = w.heap.size := ⟨_, rfl⟩; rw [← hBe] at R_dk; have hB0 : w.heap.size ≤ B := by rw [hBe]; exact HB.size
    have hB : B ≤ w8.heap.size := by rw [hBe]; exact bw8.size
    have hN : ∀ k, (fun _ : Nat => False) k → k < w8.heap.size := fun k hk => hk.elim; clear hBe
    replace HB := Kw.Below.then HB (Nat.le_refl _) bw8; clear bw8
    have W_dk : WF ⟨[], [], 3000, false, 0, false, 0, 0⟩ := WF.nil rfl (by unfold okI; dsimp only; omega) (by decide)
    refine Kw.WL_v rfl rfl rfl (Kw.R_move rfl) ?_
    refine Kw.WL_v rfl rfl rfl (Kw.R_extract (v := .pointer (some ⟨tb, 0, none⟩)) rfl rfl) ?_
    refine Kw.WL_v rfl rfl rfl (Kw.R_extract (v := .int .i64 0) rfl rfl) ?_
    refine Kw.WL_v rfl rfl rfl (Kw.R_assign rfl) ?_
    refine Kw.WL_v rfl rfl rfl (Kw.R_assign rfl) ?_
    refine Kw.WL_nil ?_
    refine hK7 _ _ ?_; clear hK7 K7
    refine Kw.WC_sub (l' := [(0, .slice a1 L.length cap1), (1, .int .u8 q), (2, .int .i64 kp), (7, .pointer (some ⟨tb, 0, none⟩)), (8, .int .i64 0)]) (Kw.Sub.cons rfl (Kw.Sub.cons rfl (Kw.Sub.cons rfl (Kw.Sub.cons rfl (Kw.Sub.cons rfl Kw.Sub.nil))))) ?_
    refine Kw.WC_seq (fun K9 hK9 => ?_)
    refine Kw.WC_seq (fun K10 hK10 => ?_)
    refine Kw.WC_region [some 9] rfl ?_
    refine Kw.WL_v rfl rfl rfl (Kw.R_assign rfl) ?_
    refine Kw.WL_nil ?_
    refine hK10 _ _ ?_; clear hK10 K10
    refine Kw.WC_block ?_
    refine Kw.WC_loop (ι := Nat) (fun (n : Nat) (ww : World) => (n ≤ 4 ∧ DK ww B (fun _ => False) tb ⟨mkF n, [], 3000, false, 0, false, 0, 0⟩ ∧ B ≤ ww.heap.size ∧ (∀ k, (fun _ => False) k → k < ww.heap.size)) ∧ Below w.heap.size w ww) (fun (n : Nat) => [(0, .slice a1 L.length cap1), (1, .int .u8 q), (2, .int .i64 kp), (7, .pointer (some ⟨tb, 0, none⟩)), (8, .int .i64 0), (9, .int .i64 (n : Int))]) (fun (n : Nat) => 4 - n) 0 ⟨⟨Nat.zero_le _, R_dk, hB, hN⟩, HB⟩ (Kw.Sub.cons rfl (Kw.Sub.cons rfl (Kw.Sub.cons rfl (Kw.Sub.cons rfl (Kw.Sub.cons rfl (Kw.Sub.cons rfl Kw.Sub.nil)))))) ?_
    clear HB
    rintro n w11 ⟨⟨hn4, R_dk, hB, hN⟩, HB⟩
    have W_dk : WF ⟨mkF n, [], 3000, false, 0, false, 0, 0⟩ := WF.nil rfl (by unfold okI; dsimp only; omega) (by show filesLen (mkF n) ≤ _; rw [mkF_files]; omega)
    refine Kw.WC_seq (fun K12 hK12 => ?_)
    refine Kw.WC_seq (fun K13 hK13 => ?_)
    refine Kw.WC_region [some 25, some 26] rfl ?_
    refine Kw.WL_v rfl rfl rfl (Kw.R_move rfl) ?_
    by_cases c14 : ((n : Int) : Int) < 4
    ·
      refine Kw.WL_v rfl rfl rfl (Kw.R_lss (z := true) rfl rfl (decide_eq_true c14)) ?_
      refine Kw.WL_nil ?_
      refine hK13 _ _ ?_; clear hK13 K13
      refine Kw.WC_true rfl ?_
      refine Kw.WC_skip ?_
      refine hK12 _ _ ?_; clear hK12 K12
      refine Kw.WC_seq (fun K15 hK15 => ?_)
      refine Kw.WC_block ?_
      refine Kw.WC_seq (fun K16 hK16 => ?_)
      refine Kw.WC_region [some 29, some 30, some 31, some 32, some 33, some 34, some 35, some 36] rfl ?_
      refine Kw.WL_v rfl rfl rfl (Kw.R_move rfl) ?_
      refine Kw.WL_v rfl rfl rfl (Kw.R_nei (z := false) rfl rfl (decide_eq_true (by omega))) ?_
      refine Kw.WL_v rfl rfl rfl (Kw.R_move rfl) ?_
      refine Kw.WL_v rfl rfl rfl (Kw.R_move rfl) ?_
      refine Kw.WL_v rfl rfl rfl (Kw.R_move rfl) ?_
      have hcr : createD ⟨mkF n, [], 3000, false, 0, false, 0, 0⟩ (n : Int) = (0, ⟨mkF (n + 1), [], 3000, false, 0, false, 0, 0⟩) := by rw [createD_ok rfl, mkF_succ]
      have hq_ := create_c B (fun _ => False) tb ⟨mkF n, [], 3000, false, 0, false, 0, 0⟩ w11 hB hN R_dk rfl W_dk (by dsimp only; omega) (n : Int) (by unfold okI; omega) (by omega) (mkF_none n) (by dsimp only; rw [mkF_length]; omega)
      rw [show createD ⟨mkF n, [], 3000, false, 0, false, 0, 0⟩ (n : Int) = (0, ⟨mkF (n + 1), [], 3000, false, 0, false, 0, 0⟩) from hcr] at hq_
      refine Kw.WL_callc rfl rfl rfl rfl F.cl8 rfl hq_ ?_; rintro w17 ⟨R_2, hm⟩; clear hq_
      replace W_dk : WF ⟨mkF (n + 1), [], 3000, false, 0, false, 0, 0⟩ := WF.nil rfl (by unfold okI; dsimp only; omega) (by show filesLen (mkF (n + 1)) ≤ _; rw [mkF_files]; omega)
      clear R_dk; have R_dk : DK w17 B (fun _ => False) tb ⟨mkF (n + 1), [], 3000, false, 0, false, 0, 0⟩ := R_2; clear R_2
      replace HB := Kw.Mut.below HB (Nat.le_refl _) hm (fun k hk => Nat.le_trans hB0 hk.1)
      replace hN := fun k hk => Nat.lt_of_lt_of_le (hN k hk) hm.size; replace hB := Nat.le_trans hB hm.size; clear hm
      refine Kw.WL_v rfl rfl rfl (Kw.R_nei (z := false) rfl rfl (decide_eq_true (by omega))) ?_
      refine Kw.WL_v rfl rfl rfl (Kw.R_pickf rfl rfl) ?_
      refine Kw.WL_nil ?_
      refine hK16 _ _ ?_; clear hK16 K16
      refine Kw.WC_false rfl ?_
      refine Kw.WC_skip ?_
      refine Kw.QN_block ?_
      refine hK15 _ _ ?_; clear hK15 K15
      refine Kw.WC_sub (l' := [(0, .slice a1 L.length cap1), (1, .int .u8 q), (2, .int .i64 kp), (7, .pointer (some ⟨tb, 0, none⟩)), (8, .int .i64 0), (9, .int .i64 (n : Int)), (32, .pointer (some ⟨tb, 0, none⟩)), (33, .int .i64 (n : Int)), (34, .int .i64 0), (35, .bool false)]) (Kw.Sub.cons rfl (Kw.Sub.cons rfl (Kw.Sub.cons rfl (Kw.Sub.cons rfl (Kw.Sub.cons rfl (Kw.Sub.cons rfl (Kw.Sub.cons rfl (Kw.Sub.cons rfl (Kw.Sub.cons rfl (Kw.Sub.cons rfl Kw.Sub.nil)))))))))) ?_
      refine Kw.WC_region [some 27, some 28, some 9] rfl ?_
      refine Kw.WL_v rfl rfl rfl (Kw.R_move rfl) ?_
      refine Kw.WL_v rfl rfl rfl (Kw.R_add (c := ((n + 1 : Nat) : Int)) rfl rfl (by rw [Kw.wrap_i64 (by omega)]; omega)) ?_
      refine Kw.WL_v rfl rfl rfl (Kw.R_assign rfl) ?_
      refine Kw.WL_nil ?_
      refine Kw.QN_round (n + 1) ⟨⟨by omega, R_dk, hB, hN⟩, HB⟩ (by omega) (Kw.Sub.cons rfl (Kw.Sub.cons rfl (Kw.Sub.cons rfl (Kw.Sub.cons rfl (Kw.Sub.cons rfl (Kw.Sub.cons rfl Kw.Sub.nil))))))
    ·
      refine Kw.WL_v rfl rfl rfl (Kw.R_lss (z := false) rfl rfl (decide_eq_false c14)) ?_
      refine Kw.WL_nil ?_
      refine hK13 _ _ ?_; clear hK13 K13
      refine Kw.WC_false rfl ?_
      refine Kw.WC_exit ?_
      refine Kw.QE_then ?_; clear hK12 K12
      refine Kw.QE_then ?_
      refine Kw.QE_here ?_
      refine hK9 _ _ ?_; clear hK9 K9
      refine Kw.WC_seq (fun K18 hK18 => ?_)
      refine Kw.WC_region [some 37, some 38, some 39, some 40, some 41, some 42, some 10] rfl ?_
      refine Kw.WL_v rfl rfl rfl (Kw.R_move rfl) ?_
      refine Kw.WL_v rfl rfl rfl (Kw.R_conv (c := q) Try.underlying5 Try.underlying3 rfl (Kw.wrap_i64 (by omega))) ?_
      refine Kw.WL_v rfl rfl rfl (Kw.R_move rfl) ?_
      refine Kw.WL_v rfl rfl rfl (Kw.R_lenl (n := L.length) Try.underlying22 rfl) ?_
      refine Kw.WL_v rfl rfl rfl (Kw.R_add (c := ((L.length : Int) + 1)) rfl rfl (Kw.wrap_i64 (by omega))) ?_
      have hn44 : n = 4 := by omega
      subst hn44
      obtain ⟨sure, hsure⟩ : ∃ x : Nat, (x : Int) = q % ((L.length : Int) + 1) := ⟨(q % ((L.length : Int) + 1)).toNat, by have := Int.emod_nonneg q (show ((L.length : Int) + 1) ≠ 0 by omega); omega⟩
      have hsl : sure ≤ L.length := by have := Int.emod_lt_of_pos q (show 0 < ((L.length : Int) + 1) by omega); omega
      refine Kw.WL_v rfl rfl rfl (Kw.R_rem (c := (sure : Int)) rfl rfl (by omega) (by rw [Kw.tmod_pos (by omega)]; exact hsure.symm)) ?_
      refine Kw.WL_v rfl rfl rfl (Kw.R_assign rfl) ?_
      refine Kw.WL_nil ?_
      refine hK18 _ _ ?_; clear hK18 K18
      refine Kw.WC_sub (l' := [(0, .slice a1 L.length cap1), (2, .int .i64 kp), (7, .pointer (some ⟨tb, 0, none⟩)), (10, .int .i64 (sure : Int))]) (Kw.Sub.cons rfl (Kw.Sub.cons rfl (Kw.Sub.cons rfl (Kw.Sub.cons rfl Kw.Sub.nil)))) ?_
      refine Kw.WC_seq (fun K19 hK19 => ?_)
      refine Kw.WC_region [some 43, some 44, some 11] rfl ?_
      refine Kw.WL_v rfl rfl rfl (Kw.R_move rfl) ?_
      obtain ⟨left0, hleft0⟩ : ∃ x : Int, max kp 0 = x := ⟨_, rfl⟩
      refine Kw.WL_v rfl rfl rfl (Kw.R_max rfl rfl hleft0) ?_
      refine Kw.WL_v rfl rfl rfl (Kw.R_assign rfl) ?_
      refine Kw.WL_nil ?_
      refine hK19 _ _ ?_; clear hK19 K19
      refine Kw.WC_seq (fun K20 hK20 => ?_)
      refine Kw.WC_region [some 45, some 12, none] rfl ?_
      refine Kw.WL_v rfl rfl rfl (F.R_bz29) ?_
      refine Kw.WL_alloc rfl rfl F.zr29 ?_; intro gw w21 N_gw
      have A_gw : Kw.At w21 gw F.Z29 29 := N_gw.at_
      replace R_dk := (R_dk.also (M := fun k => k = gw) (fun k hk => .inr (by rw [hk, N_gw.num]; exact Nat.le_refl _))).call N_gw.step; replace hB := Nat.le_trans hB N_gw.step.size; clear hN; have hN : ∀ k, (fun k => k = gw) k → k < _ := fun k hk => by rw [hk]; exact A_gw.lt
      have G_gw := N_gw.ge HB (Nat.le_refl _); replace HB := N_gw.below HB (Nat.le_refl _); clear N_gw
      refine Kw.WL_storeW rfl rfl rfl (by exact F.sz29) A_gw rfl rfl ?_; intro w22 M_gw
      replace A_gw : Kw.At w22 gw F.Z29 29 := M_gw.at_ A_gw
      replace R_dk := R_dk.keep ((Kw.Mut.refl (fun k => k = gw) _).chg M_gw.chg (.inl rfl)) (fun k hk => hk); replace hB := Nat.le_trans hB (Nat.le_of_eq M_gw.size.symm); replace hN := fun k hk => Nat.lt_of_lt_of_le (hN k hk) (Nat.le_of_eq M_gw.size.symm)
      replace HB := M_gw.below HB G_gw; clear M_gw
      refine Kw.WL_nil ?_
      refine hK20 _ _ ?_; clear hK20 K20
      refine Kw.WC_seq (fun K23 hK23 => ?_)
      refine Kw.WC_seq (fun K24 hK24 => ?_)
      refine Kw.WC_region [some 13] rfl ?_
      refine Kw.WL_v rfl rfl rfl (Kw.R_assign rfl) ?_
      refine Kw.WL_nil ?_
      refine hK24 _ _ ?_; clear hK24 K24
      refine Kw.WC_block ?_
      have hle0 : left0 = max kp 0 := hleft0.symm
      refine Kw.WC_loop (ι := Nat × Dk × List ByteArray × Int) (fun (q : Nat × Dk × List ByteArray × Int) (ww : World) => match q with | ⟨i, d, Ws, left⟩ => (i ≤ L.length ∧ Base i d Ws ∧ (i ≤ sure → PhA d Ws left kp) ∧ (sure < i → PhB d Ws left kp) ∧ DK ww B (fun k => k = gw) tb d ∧ B ≤ ww.heap.size ∧ (∀ k, (fun k => k = gw) k → k < ww.heap.size)) ∧ Kw.At ww gw (wantA Ws) 29 ∧ Below w.heap.size w ww) (fun (q : Nat × Dk × List ByteArray × Int) => match q with | ⟨i, d, Ws, left⟩ => [(0, .slice a1 L.length cap1), (2, .int .i64 kp), (7, .pointer (some ⟨tb, 0, none⟩)), (10, .int .i64 (sure : Int)), (11, .int .i64 left), (12, .pointer (some ⟨gw, 0, none⟩)), (13, .int .i64 (i : Int))]) (fun (q : Nat × Dk × List ByteArray × Int) => match q with | ⟨i, d, Ws, left⟩ => L.length - i) (0, ⟨mkF 4, [], 3000, false, 0, false, 0, 0⟩, List.replicate 4 ⟨#[]⟩, left0) ⟨⟨Nat.zero_le _, Base.start, fun _ => by rw [hle0]; exact PhA.start kp, fun h => absurd h (Nat.not_lt_zero _), R_dk, hB, hN⟩, A_gw, HB⟩ (Kw.Sub.cons rfl (Kw.Sub.cons rfl (Kw.Sub.cons rfl (Kw.Sub.cons rfl (Kw.Sub.cons rfl (Kw.Sub.cons rfl (Kw.Sub.cons rfl Kw.Sub.nil))))))) ?_
      clear A_gw
      clear HB
      rintro ⟨i, d, Ws, left⟩ w25 ⟨⟨hi, hBs, hA, hBf, R_dk, hB, hN⟩, A_gw, HB⟩
      dsimp only at *
      refine Kw.WC_seq (fun K26 hK26 => ?_)
      refine Kw.WC_seq (fun K27 hK27 => ?_)
      refine Kw.WC_region [some 46, some 47, some 48, some 49] rfl ?_
      refine Kw.WL_v rfl rfl rfl (Kw.R_move rfl) ?_
      refine Kw.WL_v rfl rfl rfl (Kw.R_move rfl) ?_
      refine Kw.WL_v rfl rfl rfl (Kw.R_lenl (n := L.length) Try.underlying22 rfl) ?_
      by_cases c28 : ((i : Int) : Int) < (L.length : Int)
      ·
        refine Kw.WL_v rfl rfl rfl (Kw.R_lss (z := true) rfl rfl (decide_eq_true c28)) ?_
        refine Kw.WL_nil ?_
        refine hK27 _ _ ?_; clear hK27 K27
        refine Kw.WC_true rfl ?_
        refine Kw.WC_skip ?_
        refine hK26 _ _ ?_; clear hK26 K26
        refine Kw.WC_seq (fun K29 hK29 => ?_)
        refine Kw.WC_block ?_
        refine Kw.WC_seq (fun K30 hK30 => ?_)
        refine Kw.WC_region [some 52, some 53, some 54, some 55, some 56, some 14] rfl ?_
        refine Kw.WL_v rfl rfl rfl (Kw.R_move rfl) ?_
        refine Kw.WL_v rfl rfl rfl (Kw.R_move rfl) ?_
        have hi2 : i < L.length := by omega
        obtain ⟨y, hy⟩ : ∃ y, y = L[i]'hi2 := ⟨_, rfl⟩
        rcases hRS with rfl | ⟨g1, o1, rfl, hc1⟩
        · exact absurd hi2 (Nat.not_lt_zero _)
        obtain ⟨lt1, hz1, hz2, hz3⟩ := hc1 i hi2; rw [← hy] at hz1 hz2 hz3; clear hy
        obtain ⟨z, s⟩ := y
        dsimp only at hz1 hz2 hz3
        refine Kw.WL_v rfl rfl rfl (Kw.R_indexAddrS (i := i) (b := g1) (o := o1) (o' := o1 + i * 2) rfl rfl Try.underlying22 F.sz31 (by omega) (by omega)) ?_
        refine Kw.WL_v rfl rfl rfl (Kw.R_fieldAddr (o' := o1 + i * 2 + 1) (k := 0) rfl Try.underlying31 rfl F.sz9 rfl) ?_
        refine Kw.WL_v rfl rfl rfl (Kw.R_loadc (v := .string s) rfl Try.underlying9 rfl ((HB.cell (p := ⟨g1, o1 + i * 2 + 1, none⟩) lt1).trans hz3)) ?_
        refine Kw.WL_v rfl rfl rfl (Kw.R_assign rfl) ?_
        refine Kw.WL_nil ?_
        refine hK30 _ _ ?_; clear hK30 K30
        refine Kw.WC_sub (l' := [(0, .slice (some ⟨g1, o1, none⟩) L.length cap1), (2, .int .i64 kp), (7, .pointer (some ⟨tb, 0, none⟩)), (10, .int .i64 (sure : Int)), (11, .int .i64 left), (12, .pointer (some ⟨gw, 0, none⟩)), (13, .int .i64 (i : Int)), (14, .string s)]) (Kw.Sub.cons rfl (Kw.Sub.cons rfl (Kw.Sub.cons rfl (Kw.Sub.cons rfl (Kw.Sub.cons rfl (Kw.Sub.cons rfl (Kw.Sub.cons rfl (Kw.Sub.cons rfl Kw.Sub.nil)))))))) ?_
        refine Kw.WC_seq (fun K31 hK31 => ?_)
        refine Kw.WC_seq (fun K32 hK32 => ?_)
        refine Kw.WC_region [some 57, some 58, some 59] rfl ?_
        refine Kw.WL_v rfl rfl rfl (Kw.R_move rfl) ?_
        refine Kw.WL_v rfl rfl rfl (Kw.R_lens Try.underlying9 rfl) ?_
        by_cases c33 : (50 : Int) < (s.size : Int)
        ·
          refine Kw.WL_v rfl rfl rfl (Kw.R_gtr (z := true) rfl rfl (decide_eq_true c33)) ?_
          refine Kw.WL_nil ?_
          refine hK32 _ _ ?_; clear hK32 K32
          refine Kw.WC_true rfl ?_
          refine Kw.WC_seq (fun K34 hK34 => ?_)
          refine Kw.WC_region [some 60, some 6] rfl ?_
          refine Kw.WL_callc rfl rfl rfl rfl F.cl6 rfl (stored_c _) ?_; intro w35 bw35
          replace A_gw := A_gw.call bw35
          replace HB := Kw.Below.then HB (Nat.le_refl _) bw35
          clear bw35
          refine Kw.WL_v rfl rfl rfl (Kw.R_assign rfl) ?_
          refine Kw.WL_nil ?_
          refine hK34 _ _ ?_; clear hK34 K34
          refine Kw.WC_sub (l' := [(6, .bool true)]) (Kw.Sub.cons rfl Kw.Sub.nil) ?_
          refine Kw.WC_ret ?_
          refine Kw.QR_then ?_; clear hK31 K31
          refine Kw.QR_block ?_
          refine Kw.QR_then ?_; clear hK29 K29
          refine Kw.QR_then ?_
          refine Kw.QR_block ?_
          refine Kw.QR_then ?_; clear hK23 K23
          exact Kw.post_ret1 rfl rfl ⟨rfl, HB⟩
        ·
          refine Kw.WL_v rfl rfl rfl (Kw.R_gtr (z := false) rfl rfl (decide_eq_false c33)) ?_
          refine Kw.WL_nil ?_
          refine hK32 _ _ ?_; clear hK32 K32
          refine Kw.WC_false rfl ?_
          refine Kw.WC_skip ?_
          refine hK31 _ _ ?_; clear hK31 K31
          refine Kw.WC_seq (fun K36 hK36 => ?_)
          refine Kw.WC_seq (fun K37 hK37 => ?_)
          refine Kw.WC_region [some 61, some 62, some 63, some 64, some 65, some 66, some 67, some 68, some 69, some 70, some 71, some 72, some 73, some 74, some 75, some 76, some 77, some 78, some 79, some 80, some 81] rfl ?_
          refine Kw.WL_v rfl rfl rfl (Kw.R_move rfl) ?_
          refine Kw.WL_v rfl rfl rfl (Kw.R_move rfl) ?_
          rcases Nat.lt_trichotomy i sure with hph | hph | hph
          ·
            have hpA := hA (by omega); have hBs2 := hBs
            refine Kw.WL_v rfl rfl rfl (Kw.R_eqi (z := false) rfl rfl (decide_eq_false (by omega))) ?_
            refine Kw.WL_v rfl rfl rfl (Kw.R_move rfl) ?_
            refine Kw.WL_off rfl rfl rfl ?_
            refine Kw.WL_off rfl rfl rfl ?_
            refine Kw.WL_off rfl rfl rfl ?_
            refine Kw.WL_v rfl rfl rfl (Kw.R_pickf rfl rfl) ?_
            refine Kw.WL_v rfl rfl rfl (Kw.R_move rfl) ?_
            refine Kw.WL_v rfl rfl rfl (Kw.R_move rfl) ?_
            refine Kw.WL_v rfl rfl rfl (Kw.R_move rfl) ?_
            refine Kw.WL_v rfl rfl rfl (Kw.R_move rfl) ?_
            refine Kw.WL_v rfl rfl rfl (Kw.R_indexAddrS (i := i) (b := g1) (o := o1) (o' := o1 + i * 2) rfl rfl Try.underlying22 F.sz31 (by omega) (by omega)) ?_
            refine Kw.WL_v rfl rfl rfl (Kw.R_fieldAddr (o' := o1 + i * 2) (k := 0) rfl Try.underlying31 rfl F.sz5 rfl) ?_
            refine Kw.WL_v rfl rfl rfl (Kw.R_loadc (v := .int .u8 (z : Int)) rfl Try.underlying5 rfl ((HB.cell (p := ⟨g1, o1 + i * 2, none⟩) lt1).trans hz2)) ?_
            refine Kw.WL_v rfl rfl rfl (Kw.R_conv (c := (z : Int)) Try.underlying5 Try.underlying3 rfl (Kw.wrap_i64 (by omega))) ?_
            refine Kw.WL_v rfl rfl rfl (Kw.R_rem (c := ((z % 4 : Nat) : Int)) rfl rfl (by omega) (by rw [Kw.tmod_pos (by omega)]; omega)) ?_
            refine Kw.WL_v rfl rfl rfl (Kw.R_move rfl) ?_
            have hz4 : z % 4 < 4 := Nat.mod_lt _ (by omega); have h30 : i < 30 := by omega
            obtain ⟨s0, hgk⟩ : ∃ s0, Kw.tget (Dk.F d) ((z % 4 : Nat) : Int) = some s0 := ⟨_, hpA.2 _ hz4⟩
            have hap := appendD_ok (d := d) hBs2.nofail ((z % 4 : Nat) : Int) s0 s.data.toList
            have hlq := hBs2.lenQ; have hla := hBs2.allQ; have hcp := hBs2.cap; have hlf := hBs2.lef
            have hq_ := append_c B (fun k => k = gw) tb d w25 hB hN R_dk hBs2.up hBs2.wf (by omega) (by omega) ((z % 4 : Nat) : Int) (by unfold okI; omega) s0 hgk s (hBs2.fit h30 (by omega)) (by omega) (by omega)
            rw [show appendD d ((z % 4 : Nat) : Int) s0 s.data.toList = (0, (putD d ((z % 4 : Nat) : Int) s0 s.data.toList)) from hap] at hq_
            refine Kw.WL_callc rfl rfl rfl rfl F.cl10 rfl hq_ ?_; rintro w38 ⟨R_2, hm⟩; clear hq_
            replace A_gw := A_gw.mut hm (fun hk => hk.2 rfl)
            clear R_dk; have R_dk : DK w38 B (fun k => k = gw) tb (putD d ((z % 4 : Nat) : Int) s0 s.data.toList) := R_2; clear R_2
            replace HB := Kw.Mut.below HB (Nat.le_refl _) hm (fun k hk => Nat.le_trans hB0 hk.1)
            replace hN := fun k hk => Nat.lt_of_lt_of_le (hN k hk) hm.size; replace hB := Nat.le_trans hB hm.size; clear hm
            refine Kw.WL_v rfl rfl rfl (Kw.R_nei (z := false) rfl rfl (decide_eq_true (by omega))) ?_
            refine Kw.WL_v rfl rfl rfl (Kw.R_pickf rfl rfl) ?_
            refine Kw.WL_nil ?_
            refine hK37 _ _ ?_; clear hK37 K37
            refine Kw.WC_sub (l' := [(0, .slice (some ⟨g1, o1, none⟩) L.length cap1), (2, .int .i64 kp), (7, .pointer (some ⟨tb, 0, none⟩)), (10, .int .i64 (sure : Int)), (11, .int .i64 left), (12, .pointer (some ⟨gw, 0, none⟩)), (13, .int .i64 (i : Int)), (14, .string s), (65, undef), (66, undef), (67, undef), (70, .pointer (some ⟨tb, 0, none⟩)), (71, .slice (some ⟨g1, o1, none⟩) L.length cap1), (72, .int .i64 (i : Int)), (73, .pointer (some ⟨g1, o1 + i * 2, none⟩)), (74, .pointer (some ⟨g1, o1 + i * 2, none⟩)), (75, .int .u8 (z : Int)), (76, .int .i64 (z : Int)), (77, .int .i64 ((z % 4 : Nat) : Int)), (78, .string s), (79, .int .i64 0), (80, .bool false), (81, .bool false)]) (Kw.Sub.cons rfl (Kw.Sub.cons rfl (Kw.Sub.cons rfl (Kw.Sub.cons rfl (Kw.Sub.cons rfl (Kw.Sub.cons rfl (Kw.Sub.cons rfl (Kw.Sub.cons rfl (Kw.Sub.cons rfl (Kw.Sub.cons rfl (Kw.Sub.cons rfl (Kw.Sub.cons rfl (Kw.Sub.cons rfl (Kw.Sub.cons rfl (Kw.Sub.cons rfl (Kw.Sub.cons rfl (Kw.Sub.cons rfl (Kw.Sub.cons rfl (Kw.Sub.cons rfl (Kw.Sub.cons rfl (Kw.Sub.cons rfl (Kw.Sub.cons rfl (Kw.Sub.cons rfl Kw.Sub.nil))))))))))))))))))))))) ?_
            refine Kw.WC_false rfl ?_
            refine Kw.WC_skip ?_
            refine hK36 _ _ ?_; clear hK36 K36
            refine Kw.WC_seq (fun K39 hK39 => ?_)
            refine Kw.WC_seq (fun K40 hK40 => ?_)
            refine Kw.WC_region [some 82, some 83, some 84] rfl ?_
            refine Kw.WL_v rfl rfl rfl (Kw.R_move rfl) ?_
            refine Kw.WL_v rfl rfl rfl (Kw.R_move rfl) ?_
            refine Kw.WL_v rfl rfl rfl (Kw.R_geq (z := false) rfl rfl (decide_eq_false (by omega))) ?_
            refine Kw.WL_nil ?_
            refine hK40 _ _ ?_; clear hK40 K40
            refine Kw.WC_false rfl ?_
            refine Kw.WC_skip ?_
            refine hK39 _ _ ?_; clear hK39 K39
            refine Kw.WC_still 17 [some 95, some 96, some 97, some 98, some 99, some 100, some 101, some 102, some 103, some 104, some 105, some 106, some 107, some 108, some 109, some 110, some 111, none] rfl (by kernel_rfl) (by kernel_rfl) ?_
            simp only [List.take_succ_cons, List.take_zero, List.drop_succ_cons, List.drop_zero]
            obtain ⟨w41, hww41⟩ : ∃ x : World, x = Go.World.drew w38 := ⟨_, rfl⟩
            rw [← hww41]
            replace A_gw : Kw.At w41 gw (wantA Ws) 29 := by rw [hww41]; exact A_gw
            replace HB : Below w.heap.size w w41 := by rw [hww41]; exact HB.drew
            replace R_dk : DK w41 B (fun k => k = gw) tb (putD d ((z % 4 : Nat) : Int) s0 s.data.toList) := by rw [hww41]; exact R_dk
            replace hB : B ≤ w41.heap.size := by rw [hww41]; exact hB
            replace hN : ∀ k, (fun k => k = gw) k → k < w41.heap.size := by rw [hww41]; exact hN
            clear hww41
            refine Kw.WS_v rfl rfl rfl (Kw.R_move rfl) ?_
            refine Kw.WS_v rfl rfl rfl (Kw.R_move rfl) ?_
            refine Kw.WS_v rfl rfl rfl (Kw.R_indexAddrS (i := i) (b := g1) (o := o1) (o' := o1 + i * 2) rfl rfl Try.underlying22 F.sz31 (by omega) (by omega)) ?_
            refine Kw.WS_v rfl rfl rfl (Kw.R_fieldAddr (o' := o1 + i * 2) (k := 0) rfl Try.underlying31 rfl F.sz5 rfl) ?_
            refine Kw.WS_v rfl rfl rfl (Kw.R_loadc (v := .int .u8 (z : Int)) rfl Try.underlying5 rfl ((HB.cell (p := ⟨g1, o1 + i * 2, none⟩) lt1).trans hz2)) ?_
            refine Kw.WS_v rfl rfl rfl (Kw.R_rem (c := ((z % 4 : Nat) : Int)) rfl rfl (by omega) (by rw [Kw.tmod_pos (by omega)]; omega)) ?_
            refine Kw.WS_v rfl rfl rfl (Kw.R_move rfl) ?_
            refine Kw.WS_v rfl rfl rfl (Kw.R_move rfl) ?_
            refine Kw.WS_v rfl rfl rfl (Kw.R_indexAddrS (i := i) (b := g1) (o := o1) (o' := o1 + i * 2) rfl rfl Try.underlying22 F.sz31 (by omega) (by omega)) ?_
            refine Kw.WS_v rfl rfl rfl (Kw.R_fieldAddr (o' := o1 + i * 2) (k := 0) rfl Try.underlying31 rfl F.sz5 rfl) ?_
            refine Kw.WS_v rfl rfl rfl (Kw.R_loadc (v := .int .u8 (z : Int)) rfl Try.underlying5 rfl ((HB.cell (p := ⟨g1, o1 + i * 2, none⟩) lt1).trans hz2)) ?_
            refine Kw.WS_v rfl rfl rfl (Kw.R_rem (c := ((z % 4 : Nat) : Int)) rfl rfl (by omega) (by rw [Kw.tmod_pos (by omega)]; omega)) ?_
            refine Kw.WS_v rfl rfl rfl (Kw.R_indexAddrA (i := (z % 4 : Nat)) (o' := (z % 4)) rfl rfl Try.underlying29 F.sz9 (by omega) (by omega)) ?_
            refine Kw.WS_v rfl rfl rfl (Kw.R_load1 (v := .string (Ws.getD (z % 4) ⟨#[]⟩)) rfl Try.underlying9 rfl A_gw (wantA_at Ws (z % 4) (by rw [hBs.four]; omega))) ?_
            refine Kw.WS_v rfl rfl rfl (Kw.R_move rfl) ?_
            have hwl := hBs.wlen (z % 4)
            refine Kw.WS_v rfl rfl rfl (Kw.R_adds (r := ((Ws.getD (z % 4) ⟨#[]⟩) ++ s)) rfl rfl (by omega) (rfl)) ?_
            refine Kw.WS_v rfl rfl rfl (Kw.R_indexAddrA (i := (z % 4 : Nat)) (o' := (z % 4)) rfl rfl Try.underlying29 F.sz9 (by omega) (by omega)) ?_
            refine Kw.WS_nil ?_
            refine Kw.WL_store1 (ds := wantA (Ws.set (z % 4) ((Ws.getD (z % 4) ⟨#[]⟩) ++ s))) rfl rfl rfl F.sz9 A_gw (by rw [wantA_size, hBs.four]; omega) rfl rfl (wantA_set _ _ _) ?_; intro w42 M_gw
            replace A_gw : Kw.At w42 gw (wantA (Ws.set (z % 4) ((Ws.getD (z % 4) ⟨#[]⟩) ++ s))) 29 := M_gw.at_ A_gw
            replace R_dk := R_dk.keep ((Kw.Mut.refl (fun k => k = gw) _).chg M_gw.chg (.inl rfl)) (fun k hk => hk); replace hB := Nat.le_trans hB (Nat.le_of_eq M_gw.size.symm); replace hN := fun k hk => Nat.lt_of_lt_of_le (hN k hk) (Nat.le_of_eq M_gw.size.symm)
            replace HB := M_gw.below HB G_gw; clear M_gw
            refine Kw.WL_nil ?_
            refine Kw.QN_block ?_
            refine hK29 _ _ ?_; clear hK29 K29
            refine Kw.WC_sub (l' := [(0, .slice (some ⟨g1, o1, none⟩) L.length cap1), (2, .int .i64 kp), (7, .pointer (some ⟨tb, 0, none⟩)), (10, .int .i64 (sure : Int)), (11, .int .i64 left), (12, .pointer (some ⟨gw, 0, none⟩)), (13, .int .i64 (i : Int)), (65, undef), (66, undef), (67, undef), (70, .pointer (some ⟨tb, 0, none⟩)), (71, .slice (some ⟨g1, o1, none⟩) L.length cap1), (72, .int .i64 (i : Int)), (73, .pointer (some ⟨g1, o1 + i * 2, none⟩)), (74, .pointer (some ⟨g1, o1 + i * 2, none⟩)), (75, .int .u8 (z : Int)), (76, .int .i64 (z : Int)), (77, .int .i64 ((z % 4 : Nat) : Int)), (78, .string s), (79, .int .i64 0), (80, .bool false)]) (Kw.Sub.cons rfl (Kw.Sub.cons rfl (Kw.Sub.cons rfl (Kw.Sub.cons rfl (Kw.Sub.cons rfl (Kw.Sub.cons rfl (Kw.Sub.cons rfl (Kw.Sub.cons rfl (Kw.Sub.cons rfl (Kw.Sub.cons rfl (Kw.Sub.cons rfl (Kw.Sub.cons rfl (Kw.Sub.cons rfl (Kw.Sub.cons rfl (Kw.Sub.cons rfl (Kw.Sub.cons rfl (Kw.Sub.cons rfl (Kw.Sub.cons rfl (Kw.Sub.cons rfl (Kw.Sub.cons rfl (Kw.Sub.cons rfl Kw.Sub.nil))))))))))))))))))))) ?_
            refine Kw.WC_region [some 50, some 51, some 13] rfl ?_
            refine Kw.WL_v rfl rfl rfl (Kw.R_move rfl) ?_
            refine Kw.WL_v rfl rfl rfl (Kw.R_add (c := ((i + 1 : Nat) : Int)) rfl rfl (by rw [Kw.wrap_i64 (by omega)]; omega)) ?_
            refine Kw.WL_v rfl rfl rfl (Kw.R_assign rfl) ?_
            refine Kw.WL_nil ?_
            refine Kw.QN_round ((i + 1, (putD d ((z % 4 : Nat) : Int) s0 s.data.toList), (Ws.set (z % 4) ((Ws.getD (z % 4) ⟨#[]⟩) ++ s)), left)) ⟨⟨by (try dsimp only); omega, hBs2.put h30 hz4 hgk (by omega) (by simp [ByteArray.size_append]), fun _ => hpA.put hBs.four hz4 hgk s, fun h => absurd h (by omega), R_dk, hB, hN⟩, A_gw, HB⟩ (by dsimp only; omega) (Kw.Sub.cons rfl (Kw.Sub.cons rfl (Kw.Sub.cons rfl (Kw.Sub.cons rfl (Kw.Sub.cons rfl (Kw.Sub.cons rfl (Kw.Sub.cons rfl Kw.Sub.nil)))))))
          ·
            have hpA := hA (by omega); have hpB := hpA.sync; have hBs2 := hBs.sync
            have hsy := syncD_ok hBs.nofail
            refine Kw.WL_v rfl rfl rfl (Kw.R_eqi (z := true) rfl rfl (decide_eq_true (by omega))) ?_
            refine Kw.WL_v rfl rfl rfl (Kw.R_move rfl) ?_
            refine Kw.WL_v rfl rfl rfl (Kw.R_move rfl) ?_
            have hq_ := sync_c B (fun k => k = gw) tb d w25 hB hN R_dk hBs.up hBs.wf (by have := hBs.lef; omega)
            rw [show syncD d = (0, { d with Q := [] }) from hsy] at hq_
            refine Kw.WL_callc rfl rfl rfl rfl F.cl9 rfl hq_ ?_; rintro w43 ⟨R_2, hm⟩; clear hq_
            replace A_gw := A_gw.mut hm (fun hk => hk.2 rfl)
            clear R_dk; have R_dk : DK w43 B (fun k => k = gw) tb ({ d with Q := [] }) := R_2; clear R_2
            replace HB := Kw.Mut.below HB (Nat.le_refl _) hm (fun k hk => Nat.le_trans hB0 hk.1)
            replace hN := fun k hk => Nat.lt_of_lt_of_le (hN k hk) hm.size; replace hB := Nat.le_trans hB hm.size; clear hm
            refine Kw.WL_v rfl rfl rfl (Kw.R_nei (z := false) rfl rfl (decide_eq_true (by omega))) ?_
            refine Kw.WL_v rfl rfl rfl (Kw.R_pickt rfl rfl) ?_
            refine Kw.WL_v rfl rfl rfl (Kw.R_move rfl) ?_
            refine Kw.WL_v rfl rfl rfl (Kw.R_move rfl) ?_
            refine Kw.WL_v rfl rfl rfl (Kw.R_move rfl) ?_
            refine Kw.WL_v rfl rfl rfl (Kw.R_move rfl) ?_
            refine Kw.WL_v rfl rfl rfl (Kw.R_indexAddrS (i := i) (b := g1) (o := o1) (o' := o1 + i * 2) rfl rfl Try.underlying22 F.sz31 (by omega) (by omega)) ?_
            refine Kw.WL_v rfl rfl rfl (Kw.R_fieldAddr (o' := o1 + i * 2) (k := 0) rfl Try.underlying31 rfl F.sz5 rfl) ?_
            refine Kw.WL_v rfl rfl rfl (Kw.R_loadc (v := .int .u8 (z : Int)) rfl Try.underlying5 rfl ((HB.cell (p := ⟨g1, o1 + i * 2, none⟩) lt1).trans hz2)) ?_
            refine Kw.WL_v rfl rfl rfl (Kw.R_conv (c := (z : Int)) Try.underlying5 Try.underlying3 rfl (Kw.wrap_i64 (by omega))) ?_
            refine Kw.WL_v rfl rfl rfl (Kw.R_rem (c := ((z % 4 : Nat) : Int)) rfl rfl (by omega) (by rw [Kw.tmod_pos (by omega)]; omega)) ?_
            refine Kw.WL_v rfl rfl rfl (Kw.R_move rfl) ?_
            have hz4 : z % 4 < 4 := Nat.mod_lt _ (by omega); have h30 : i < 30 := by omega
            obtain ⟨s0, hgk, _⟩ := hpB.2 _ hz4
            have hap := appendD_ok (d := { d with Q := [] }) hBs2.nofail ((z % 4 : Nat) : Int) s0 s.data.toList
            have hlq := hBs2.lenQ; have hla := hBs2.allQ; have hcp := hBs2.cap; have hlf := hBs2.lef
            have hq_ := append_c B (fun k => k = gw) tb { d with Q := [] } w43 hB hN R_dk hBs2.up hBs2.wf (by omega) (by omega) ((z % 4 : Nat) : Int) (by unfold okI; omega) s0 hgk s (hBs2.fit h30 (by omega)) (by omega) (by omega)
            rw [show appendD { d with Q := [] } ((z % 4 : Nat) : Int) s0 s.data.toList = (0, (putD ({ d with Q := [] }) ((z % 4 : Nat) : Int) s0 s.data.toList)) from hap] at hq_
            refine Kw.WL_callc rfl rfl rfl rfl F.cl10 rfl hq_ ?_; rintro w44 ⟨R_2, hm⟩; clear hq_
            replace A_gw := A_gw.mut hm (fun hk => hk.2 rfl)
            clear R_dk; have R_dk : DK w44 B (fun k => k = gw) tb (putD ({ d with Q := [] }) ((z % 4 : Nat) : Int) s0 s.data.toList) := R_2; clear R_2
            replace HB := Kw.Mut.below HB (Nat.le_refl _) hm (fun k hk => Nat.le_trans hB0 hk.1)
            replace hN := fun k hk => Nat.lt_of_lt_of_le (hN k hk) hm.size; replace hB := Nat.le_trans hB hm.size; clear hm
            refine Kw.WL_v rfl rfl rfl (Kw.R_nei (z := false) rfl rfl (decide_eq_true (by omega))) ?_
            refine Kw.WL_v rfl rfl rfl (Kw.R_pickf rfl rfl) ?_
            refine Kw.WL_nil ?_
            refine hK37 _ _ ?_; clear hK37 K37
            refine Kw.WC_sub (l' := [(0, .slice (some ⟨g1, o1, none⟩) L.length cap1), (2, .int .i64 kp), (7, .pointer (some ⟨tb, 0, none⟩)), (10, .int .i64 (sure : Int)), (11, .int .i64 left), (12, .pointer (some ⟨gw, 0, none⟩)), (13, .int .i64 (i : Int)), (14, .string s), (65, .pointer (some ⟨tb, 0, none⟩)), (66, .int .i64 0), (67, .bool false), (70, .pointer (some ⟨tb, 0, none⟩)), (71, .slice (some ⟨g1, o1, none⟩) L.length cap1), (72, .int .i64 (i : Int)), (73, .pointer (some ⟨g1, o1 + i * 2, none⟩)), (74, .pointer (some ⟨g1, o1 + i * 2, none⟩)), (75, .int .u8 (z : Int)), (76, .int .i64 (z : Int)), (77, .int .i64 ((z % 4 : Nat) : Int)), (78, .string s), (79, .int .i64 0), (80, .bool false), (81, .bool false)]) (Kw.Sub.cons rfl (Kw.Sub.cons rfl (Kw.Sub.cons rfl (Kw.Sub.cons rfl (Kw.Sub.cons rfl (Kw.Sub.cons rfl (Kw.Sub.cons rfl (Kw.Sub.cons rfl (Kw.Sub.cons rfl (Kw.Sub.cons rfl (Kw.Sub.cons rfl (Kw.Sub.cons rfl (Kw.Sub.cons rfl (Kw.Sub.cons rfl (Kw.Sub.cons rfl (Kw.Sub.cons rfl (Kw.Sub.cons rfl (Kw.Sub.cons rfl (Kw.Sub.cons rfl (Kw.Sub.cons rfl (Kw.Sub.cons rfl (Kw.Sub.cons rfl (Kw.Sub.cons rfl Kw.Sub.nil))))))))))))))))))))))) ?_
            refine Kw.WC_false rfl ?_
            refine Kw.WC_skip ?_
            refine hK36 _ _ ?_; clear hK36 K36
            refine Kw.WC_seq (fun K45 hK45 => ?_)
            refine Kw.WC_seq (fun K46 hK46 => ?_)
            refine Kw.WC_region [some 82, some 83, some 84] rfl ?_
            refine Kw.WL_v rfl rfl rfl (Kw.R_move rfl) ?_
            refine Kw.WL_v rfl rfl rfl (Kw.R_move rfl) ?_
            refine Kw.WL_v rfl rfl rfl (Kw.R_geq (z := true) rfl rfl (decide_eq_true (by omega))) ?_
            refine Kw.WL_nil ?_
            refine hK46 _ _ ?_; clear hK46 K46
            refine Kw.WC_true rfl ?_
            refine Kw.WC_seq (fun K47 hK47 => ?_)
            refine Kw.WC_region [some 85, some 86, some 87, some 88, some 89, some 90, some 14] rfl ?_
            refine Kw.WL_v rfl rfl rfl (Kw.R_move rfl) ?_
            refine Kw.WL_v rfl rfl rfl (Kw.R_move rfl) ?_
            refine Kw.WL_v rfl rfl rfl (Kw.R_lens Try.underlying9 rfl) ?_
            refine Kw.WL_v rfl rfl rfl (Kw.R_move rfl) ?_
            obtain ⟨hlf0, hlf1⟩ := hpB.le hkp
            obtain ⟨mm, hmm⟩ : ∃ x : Nat, min (s.size : Int) left = (x : Int) := ⟨(min (s.size : Int) left).toNat, by omega⟩
            refine Kw.WL_v rfl rfl rfl (Kw.R_min (c := (mm : Int)) rfl rfl (hmm)) ?_
            refine Kw.WL_v rfl rfl rfl (Kw.R_slices (i := 0) (j := mm) (r := (s.extract 0 mm)) Try.underlying9 rfl rfl ⟨_, rfl⟩ (by omega) (by omega) (rfl)) ?_
            have hes : (s.extract 0 mm).size = mm := by rw [← size_list, bytes_extract, List.length_take, size_list]; omega
            refine Kw.WL_v rfl rfl rfl (Kw.R_assign rfl) ?_
            refine Kw.WL_nil ?_
            refine hK47 _ _ ?_; clear hK47 K47
            refine Kw.WC_sub (l' := [(0, .slice (some ⟨g1, o1, none⟩) L.length cap1), (2, .int .i64 kp), (7, .pointer (some ⟨tb, 0, none⟩)), (10, .int .i64 (sure : Int)), (11, .int .i64 left), (12, .pointer (some ⟨gw, 0, none⟩)), (13, .int .i64 (i : Int)), (14, .string (s.extract 0 mm)), (65, .pointer (some ⟨tb, 0, none⟩)), (66, .int .i64 0), (67, .bool false), (70, .pointer (some ⟨tb, 0, none⟩)), (71, .slice (some ⟨g1, o1, none⟩) L.length cap1), (72, .int .i64 (i : Int)), (73, .pointer (some ⟨g1, o1 + i * 2, none⟩)), (74, .pointer (some ⟨g1, o1 + i * 2, none⟩)), (75, .int .u8 (z : Int)), (76, .int .i64 (z : Int)), (77, .int .i64 ((z % 4 : Nat) : Int)), (78, .string s), (79, .int .i64 0), (80, .bool false)]) (Kw.Sub.cons rfl (Kw.Sub.cons rfl (Kw.Sub.cons rfl (Kw.Sub.cons rfl (Kw.Sub.cons rfl (Kw.Sub.cons rfl (Kw.Sub.cons rfl (Kw.Sub.cons rfl (Kw.Sub.cons rfl (Kw.Sub.cons rfl (Kw.Sub.cons rfl (Kw.Sub.cons rfl (Kw.Sub.cons rfl (Kw.Sub.cons rfl (Kw.Sub.cons rfl (Kw.Sub.cons rfl (Kw.Sub.cons rfl (Kw.Sub.cons rfl (Kw.Sub.cons rfl (Kw.Sub.cons rfl (Kw.Sub.cons rfl (Kw.Sub.cons rfl Kw.Sub.nil)))))))))))))))))))))) ?_
            refine Kw.WC_region [some 91, some 92, some 93, some 94, some 11] rfl ?_
            refine Kw.WL_v rfl rfl rfl (Kw.R_move rfl) ?_
            refine Kw.WL_v rfl rfl rfl (Kw.R_move rfl) ?_
            refine Kw.WL_v rfl rfl rfl (Kw.R_lens Try.underlying9 rfl) ?_
            refine Kw.WL_v rfl rfl rfl (Kw.R_sub (c := (left - mm)) rfl rfl (by rw [hes, Kw.wrap_i64 (by omega)])) ?_
            refine Kw.WL_v rfl rfl rfl (Kw.R_assign rfl) ?_
            refine Kw.WL_nil ?_
            refine hK45 _ _ ?_; clear hK45 K45
            refine Kw.WC_still 17 [some 95, some 96, some 97, some 98, some 99, some 100, some 101, some 102, some 103, some 104, some 105, some 106, some 107, some 108, some 109, some 110, some 111, none] rfl (by kernel_rfl) (by kernel_rfl) ?_
            simp only [List.take_succ_cons, List.take_zero, List.drop_succ_cons, List.drop_zero]
            obtain ⟨w49, hww49⟩ : ∃ x : World, x = Go.World.drew w44 := ⟨_, rfl⟩
            rw [← hww49]
            replace A_gw : Kw.At w49 gw (wantA Ws) 29 := by rw [hww49]; exact A_gw
            replace HB : Below w.heap.size w w49 := by rw [hww49]; exact HB.drew
            replace R_dk : DK w49 B (fun k => k = gw) tb (putD ({ d with Q := [] }) ((z % 4 : Nat) : Int) s0 s.data.toList) := by rw [hww49]; exact R_dk
            replace hB : B ≤ w49.heap.size := by rw [hww49]; exact hB
            replace hN : ∀ k, (fun k => k = gw) k → k < w49.heap.size := by rw [hww49]; exact hN
            clear hww49
            refine Kw.WS_v rfl rfl rfl (Kw.R_move rfl) ?_
            refine Kw.WS_v rfl rfl rfl (Kw.R_move rfl) ?_
            refine Kw.WS_v rfl rfl rfl (Kw.R_indexAddrS (i := i) (b := g1) (o := o1) (o' := o1 + i * 2) rfl rfl Try.underlying22 F.sz31 (by omega) (by omega)) ?_
            refine Kw.WS_v rfl rfl rfl (Kw.R_fieldAddr (o' := o1 + i * 2) (k := 0) rfl Try.underlying31 rfl F.sz5 rfl) ?_
            refine Kw.WS_v rfl rfl rfl (Kw.R_loadc (v := .int .u8 (z : Int)) rfl Try.underlying5 rfl ((HB.cell (p := ⟨g1, o1 + i * 2, none⟩) lt1).trans hz2)) ?_
            refine Kw.WS_v rfl rfl rfl (Kw.R_rem (c := ((z % 4 : Nat) : Int)) rfl rfl (by omega) (by rw [Kw.tmod_pos (by omega)]; omega)) ?_
            refine Kw.WS_v rfl rfl rfl (Kw.R_move rfl) ?_
            refine Kw.WS_v rfl rfl rfl (Kw.R_move rfl) ?_
            refine Kw.WS_v rfl rfl rfl (Kw.R_indexAddrS (i := i) (b := g1) (o := o1) (o' := o1 + i * 2) rfl rfl Try.underlying22 F.sz31 (by omega) (by omega)) ?_
            refine Kw.WS_v rfl rfl rfl (Kw.R_fieldAddr (o' := o1 + i * 2) (k := 0) rfl Try.underlying31 rfl F.sz5 rfl) ?_
            refine Kw.WS_v rfl rfl rfl (Kw.R_loadc (v := .int .u8 (z : Int)) rfl Try.underlying5 rfl ((HB.cell (p := ⟨g1, o1 + i * 2, none⟩) lt1).trans hz2)) ?_
            refine Kw.WS_v rfl rfl rfl (Kw.R_rem (c := ((z % 4 : Nat) : Int)) rfl rfl (by omega) (by rw [Kw.tmod_pos (by omega)]; omega)) ?_
            refine Kw.WS_v rfl rfl rfl (Kw.R_indexAddrA (i := (z % 4 : Nat)) (o' := (z % 4)) rfl rfl Try.underlying29 F.sz9 (by omega) (by omega)) ?_
            refine Kw.WS_v rfl rfl rfl (Kw.R_load1 (v := .string (Ws.getD (z % 4) ⟨#[]⟩)) rfl Try.underlying9 rfl A_gw (wantA_at Ws (z % 4) (by rw [hBs.four]; omega))) ?_
            refine Kw.WS_v rfl rfl rfl (Kw.R_move rfl) ?_
            have hwl := hBs.wlen (z % 4)
            refine Kw.WS_v rfl rfl rfl (Kw.R_adds (r := ((Ws.getD (z % 4) ⟨#[]⟩) ++ (s.extract 0 mm))) rfl rfl (by omega) (rfl)) ?_
            refine Kw.WS_v rfl rfl rfl (Kw.R_indexAddrA (i := (z % 4 : Nat)) (o' := (z % 4)) rfl rfl Try.underlying29 F.sz9 (by omega) (by omega)) ?_
            refine Kw.WS_nil ?_
            refine Kw.WL_store1 (ds := wantA (Ws.set (z % 4) ((Ws.getD (z % 4) ⟨#[]⟩) ++ (s.extract 0 mm)))) rfl rfl rfl F.sz9 A_gw (by rw [wantA_size, hBs.four]; omega) rfl rfl (wantA_set _ _ _) ?_; intro w50 M_gw
            replace A_gw : Kw.At w50 gw (wantA (Ws.set (z % 4) ((Ws.getD (z % 4) ⟨#[]⟩) ++ (s.extract 0 mm)))) 29 := M_gw.at_ A_gw
            replace R_dk := R_dk.keep ((Kw.Mut.refl (fun k => k = gw) _).chg M_gw.chg (.inl rfl)) (fun k hk => hk); replace hB := Nat.le_trans hB (Nat.le_of_eq M_gw.size.symm); replace hN := fun k hk => Nat.lt_of_lt_of_le (hN k hk) (Nat.le_of_eq M_gw.size.symm)
            replace HB := M_gw.below HB G_gw; clear M_gw
            refine Kw.WL_nil ?_
            refine Kw.QN_block ?_
            refine hK29 _ _ ?_; clear hK29 K29
            refine Kw.WC_sub (l' := [(0, .slice (some ⟨g1, o1, none⟩) L.length cap1), (2, .int .i64 kp), (7, .pointer (some ⟨tb, 0, none⟩)), (10, .int .i64 (sure : Int)), (11, .int .i64 (left - mm)), (12, .pointer (some ⟨gw, 0, none⟩)), (13, .int .i64 (i : Int)), (65, .pointer (some ⟨tb, 0, none⟩)), (66, .int .i64 0), (67, .bool false), (70, .pointer (some ⟨tb, 0, none⟩)), (71, .slice (some ⟨g1, o1, none⟩) L.length cap1), (72, .int .i64 (i : Int)), (73, .pointer (some ⟨g1, o1 + i * 2, none⟩)), (74, .pointer (some ⟨g1, o1 + i * 2, none⟩)), (75, .int .u8 (z : Int)), (76, .int .i64 (z : Int)), (77, .int .i64 ((z % 4 : Nat) : Int)), (78, .string s), (79, .int .i64 0), (80, .bool false)]) (Kw.Sub.cons rfl (Kw.Sub.cons rfl (Kw.Sub.cons rfl (Kw.Sub.cons rfl (Kw.Sub.cons rfl (Kw.Sub.cons rfl (Kw.Sub.cons rfl (Kw.Sub.cons rfl (Kw.Sub.cons rfl (Kw.Sub.cons rfl (Kw.Sub.cons rfl (Kw.Sub.cons rfl (Kw.Sub.cons rfl (Kw.Sub.cons rfl (Kw.Sub.cons rfl (Kw.Sub.cons rfl (Kw.Sub.cons rfl (Kw.Sub.cons rfl (Kw.Sub.cons rfl (Kw.Sub.cons rfl (Kw.Sub.cons rfl Kw.Sub.nil))))))))))))))))))))) ?_
            refine Kw.WC_region [some 50, some 51, some 13] rfl ?_
            refine Kw.WL_v rfl rfl rfl (Kw.R_move rfl) ?_
            refine Kw.WL_v rfl rfl rfl (Kw.R_add (c := ((i + 1 : Nat) : Int)) rfl rfl (by rw [Kw.wrap_i64 (by omega)]; omega)) ?_
            refine Kw.WL_v rfl rfl rfl (Kw.R_assign rfl) ?_
            refine Kw.WL_nil ?_
            refine Kw.QN_round ((i + 1, (putD ({ d with Q := [] }) ((z % 4 : Nat) : Int) s0 s.data.toList), (Ws.set (z % 4) ((Ws.getD (z % 4) ⟨#[]⟩) ++ (s.extract 0 mm))), left - mm)) ⟨⟨by (try dsimp only); omega, hBs2.put h30 hz4 hgk (by omega) (by rw [ByteArray.size_append]; omega), fun h => absurd h (by omega), fun _ => hpB.put hBs.four hz4 hgk s hmm, R_dk, hB, hN⟩, A_gw, HB⟩ (by dsimp only; omega) (Kw.Sub.cons rfl (Kw.Sub.cons rfl (Kw.Sub.cons rfl (Kw.Sub.cons rfl (Kw.Sub.cons rfl (Kw.Sub.cons rfl (Kw.Sub.cons rfl Kw.Sub.nil)))))))
          ·
            have hpB := hBf (by omega); have hBs2 := hBs
            refine Kw.WL_v rfl rfl rfl (Kw.R_eqi (z := false) rfl rfl (decide_eq_false (by omega))) ?_
            refine Kw.WL_v rfl rfl rfl (Kw.R_move rfl) ?_
            refine Kw.WL_off rfl rfl rfl ?_
            refine Kw.WL_off rfl rfl rfl ?_
            refine Kw.WL_off rfl rfl rfl ?_
            refine Kw.WL_v rfl rfl rfl (Kw.R_pickf rfl rfl) ?_
            refine Kw.WL_v rfl rfl rfl (Kw.R_move rfl) ?_
            refine Kw.WL_v rfl rfl rfl (Kw.R_move rfl) ?_
            refine Kw.WL_v rfl rfl rfl (Kw.R_move rfl) ?_
            refine Kw.WL_v rfl rfl rfl (Kw.R_move rfl) ?_
            refine Kw.WL_v rfl rfl rfl (Kw.R_indexAddrS (i := i) (b := g1) (o := o1) (o' := o1 + i * 2) rfl rfl Try.underlying22 F.sz31 (by omega) (by omega)) ?_
            refine Kw.WL_v rfl rfl rfl (Kw.R_fieldAddr (o' := o1 + i * 2) (k := 0) rfl Try.underlying31 rfl F.sz5 rfl) ?_
            refine Kw.WL_v rfl rfl rfl (Kw.R_loadc (v := .int .u8 (z : Int)) rfl Try.underlying5 rfl ((HB.cell (p := ⟨g1, o1 + i * 2, none⟩) lt1).trans hz2)) ?_
            refine Kw.WL_v rfl rfl rfl (Kw.R_conv (c := (z : Int)) Try.underlying5 Try.underlying3 rfl (Kw.wrap_i64 (by omega))) ?_
            refine Kw.WL_v rfl rfl rfl (Kw.R_rem (c := ((z % 4 : Nat) : Int)) rfl rfl (by omega) (by rw [Kw.tmod_pos (by omega)]; omega)) ?_
            refine Kw.WL_v rfl rfl rfl (Kw.R_move rfl) ?_
            have hz4 : z % 4 < 4 := Nat.mod_lt _ (by omega); have h30 : i < 30 := by omega
            obtain ⟨s0, hgk, _⟩ := hpB.2 _ hz4
            have hap := appendD_ok (d := d) hBs2.nofail ((z % 4 : Nat) : Int) s0 s.data.toList
            have hlq := hBs2.lenQ; have hla := hBs2.allQ; have hcp := hBs2.cap; have hlf := hBs2.lef
            have hq_ := append_c B (fun k => k = gw) tb d w25 hB hN R_dk hBs2.up hBs2.wf (by omega) (by omega) ((z % 4 : Nat) : Int) (by unfold okI; omega) s0 hgk s (hBs2.fit h30 (by omega)) (by omega) (by omega)
            rw [show appendD d ((z % 4 : Nat) : Int) s0 s.data.toList = (0, (putD d ((z % 4 : Nat) : Int) s0 s.data.toList)) from hap] at hq_
            refine Kw.WL_callc rfl rfl rfl rfl F.cl10 rfl hq_ ?_; rintro w51 ⟨R_2, hm⟩; clear hq_
            replace A_gw := A_gw.mut hm (fun hk => hk.2 rfl)
            clear R_dk; have R_dk : DK w51 B (fun k => k = gw) tb (putD d ((z % 4 : Nat) : Int) s0 s.data.toList) := R_2; clear R_2
            replace HB := Kw.Mut.below HB (Nat.le_refl _) hm (fun k hk => Nat.le_trans hB0 hk.1)
            replace hN := fun k hk => Nat.lt_of_lt_of_le (hN k hk) hm.size; replace hB := Nat.le_trans hB hm.size; clear hm
            refine Kw.WL_v rfl rfl rfl (Kw.R_nei (z := false) rfl rfl (decide_eq_true (by omega))) ?_
            refine Kw.WL_v rfl rfl rfl (Kw.R_pickf rfl rfl) ?_
            refine Kw.WL_nil ?_
            refine hK37 _ _ ?_; clear hK37 K37
            refine Kw.WC_sub (l' := [(0, .slice (some ⟨g1, o1, none⟩) L.length cap1), (2, .int .i64 kp), (7, .pointer (some ⟨tb, 0, none⟩)), (10, .int .i64 (sure : Int)), (11, .int .i64 left), (12, .pointer (some ⟨gw, 0, none⟩)), (13, .int .i64 (i : Int)), (14, .string s), (65, undef), (66, undef), (67, undef), (70, .pointer (some ⟨tb, 0, none⟩)), (71, .slice (some ⟨g1, o1, none⟩) L.length cap1), (72, .int .i64 (i : Int)), (73, .pointer (some ⟨g1, o1 + i * 2, none⟩)), (74, .pointer (some ⟨g1, o1 + i * 2, none⟩)), (75, .int .u8 (z : Int)), (76, .int .i64 (z : Int)), (77, .int .i64 ((z % 4 : Nat) : Int)), (78, .string s), (79, .int .i64 0), (80, .bool false), (81, .bool false)]) (Kw.Sub.cons rfl (Kw.Sub.cons rfl (Kw.Sub.cons rfl (Kw.Sub.cons rfl (Kw.Sub.cons rfl (Kw.Sub.cons rfl (Kw.Sub.cons rfl (Kw.Sub.cons rfl (Kw.Sub.cons rfl (Kw.Sub.cons rfl (Kw.Sub.cons rfl (Kw.Sub.cons rfl (Kw.Sub.cons rfl (Kw.Sub.cons rfl (Kw.Sub.cons rfl (Kw.Sub.cons rfl (Kw.Sub.cons rfl (Kw.Sub.cons rfl (Kw.Sub.cons rfl (Kw.Sub.cons rfl (Kw.Sub.cons rfl (Kw.Sub.cons rfl (Kw.Sub.cons rfl Kw.Sub.nil))))))))))))))))))))))) ?_
            refine Kw.WC_false rfl ?_
            refine Kw.WC_skip ?_
            refine hK36 _ _ ?_; clear hK36 K36
            refine Kw.WC_seq (fun K52 hK52 => ?_)
            refine Kw.WC_seq (fun K53 hK53 => ?_)
            refine Kw.WC_region [some 82, some 83, some 84] rfl ?_
            refine Kw.WL_v rfl rfl rfl (Kw.R_move rfl) ?_
            refine Kw.WL_v rfl rfl rfl (Kw.R_move rfl) ?_
            refine Kw.WL_v rfl rfl rfl (Kw.R_geq (z := true) rfl rfl (decide_eq_true (by omega))) ?_
            refine Kw.WL_nil ?_
            refine hK53 _ _ ?_; clear hK53 K53
            refine Kw.WC_true rfl ?_
            refine Kw.WC_seq (fun K54 hK54 => ?_)
            refine Kw.WC_region [some 85, some 86, some 87, some 88, some 89, some 90, some 14] rfl ?_
            refine Kw.WL_v rfl rfl rfl (Kw.R_move rfl) ?_
            refine Kw.WL_v rfl rfl rfl (Kw.R_move rfl) ?_
            refine Kw.WL_v rfl rfl rfl (Kw.R_lens Try.underlying9 rfl) ?_
            refine Kw.WL_v rfl rfl rfl (Kw.R_move rfl) ?_
            obtain ⟨hlf0, hlf1⟩ := hpB.le hkp
            obtain ⟨mm, hmm⟩ : ∃ x : Nat, min (s.size : Int) left = (x : Int) := ⟨(min (s.size : Int) left).toNat, by omega⟩
            refine Kw.WL_v rfl rfl rfl (Kw.R_min (c := (mm : Int)) rfl rfl (hmm)) ?_
            refine Kw.WL_v rfl rfl rfl (Kw.R_slices (i := 0) (j := mm) (r := (s.extract 0 mm)) Try.underlying9 rfl rfl ⟨_, rfl⟩ (by omega) (by omega) (rfl)) ?_
            have hes : (s.extract 0 mm).size = mm := by rw [← size_list, bytes_extract, List.length_take, size_list]; omega
            refine Kw.WL_v rfl rfl rfl (Kw.R_assign rfl) ?_
            refine Kw.WL_nil ?_
            refine hK54 _ _ ?_; clear hK54 K54
            refine Kw.WC_sub (l' := [(0, .slice (some ⟨g1, o1, none⟩) L.length cap1), (2, .int .i64 kp), (7, .pointer (some ⟨tb, 0, none⟩)), (10, .int .i64 (sure : Int)), (11, .int .i64 left), (12, .pointer (some ⟨gw, 0, none⟩)), (13, .int .i64 (i : Int)), (14, .string (s.extract 0 mm)), (65, undef), (66, undef), (67, undef), (70, .pointer (some ⟨tb, 0, none⟩)), (71, .slice (some ⟨g1, o1, none⟩) L.length cap1), (72, .int .i64 (i : Int)), (73, .pointer (some ⟨g1, o1 + i * 2, none⟩)), (74, .pointer (some ⟨g1, o1 + i * 2, none⟩)), (75, .int .u8 (z : Int)), (76, .int .i64 (z : Int)), (77, .int .i64 ((z % 4 : Nat) : Int)), (78, .string s), (79, .int .i64 0), (80, .bool false)]) (Kw.Sub.cons rfl (Kw.Sub.cons rfl (Kw.Sub.cons rfl (Kw.Sub.cons rfl (Kw.Sub.cons rfl (Kw.Sub.cons rfl (Kw.Sub.cons rfl (Kw.Sub.cons rfl (Kw.Sub.cons rfl (Kw.Sub.cons rfl (Kw.Sub.cons rfl (Kw.Sub.cons rfl (Kw.Sub.cons rfl (Kw.Sub.cons rfl (Kw.Sub.cons rfl (Kw.Sub.cons rfl (Kw.Sub.cons rfl (Kw.Sub.cons rfl (Kw.Sub.cons rfl (Kw.Sub.cons rfl (Kw.Sub.cons rfl (Kw.Sub.cons rfl Kw.Sub.nil)))))))))))))))))))))) ?_
            refine Kw.WC_region [some 91, some 92, some 93, some 94, some 11] rfl ?_
            refine Kw.WL_v rfl rfl rfl (Kw.R_move rfl) ?_
            refine Kw.WL_v rfl rfl rfl (Kw.R_move rfl) ?_
            refine Kw.WL_v rfl rfl rfl (Kw.R_lens Try.underlying9 rfl) ?_
            refine Kw.WL_v rfl rfl rfl (Kw.R_sub (c := (left - mm)) rfl rfl (by rw [hes, Kw.wrap_i64 (by omega)])) ?_
            refine Kw.WL_v rfl rfl rfl (Kw.R_assign rfl) ?_
            refine Kw.WL_nil ?_
            refine hK52 _ _ ?_; clear hK52 K52
            refine Kw.WC_still 17 [some 95, some 96, some 97, some 98, some 99, some 100, some 101, some 102, some 103, some 104, some 105, some 106, some 107, some 108, some 109, some 110, some 111, none] rfl (by kernel_rfl) (by kernel_rfl) ?_
            simp only [List.take_succ_cons, List.take_zero, List.drop_succ_cons, List.drop_zero]
            obtain ⟨w56, hww56⟩ : ∃ x : World, x = Go.World.drew w51 := ⟨_, rfl⟩
            rw [← hww56]
            replace A_gw : Kw.At w56 gw (wantA Ws) 29 := by rw [hww56]; exact A_gw
            replace HB : Below w.heap.size w w56 := by rw [hww56]; exact HB.drew
            replace R_dk : DK w56 B (fun k => k = gw) tb (putD d ((z % 4 : Nat) : Int) s0 s.data.toList) := by rw [hww56]; exact R_dk
            replace hB : B ≤ w56.heap.size := by rw [hww56]; exact hB
            replace hN : ∀ k, (fun k => k = gw) k → k < w56.heap.size := by rw [hww56]; exact hN
            clear hww56
            refine Kw.WS_v rfl rfl rfl (Kw.R_move rfl) ?_
            refine Kw.WS_v rfl rfl rfl (Kw.R_move rfl) ?_
            refine Kw.WS_v rfl rfl rfl (Kw.R_indexAddrS (i := i) (b := g1) (o := o1) (o' := o1 + i * 2) rfl rfl Try.underlying22 F.sz31 (by omega) (by omega)) ?_
            refine Kw.WS_v rfl rfl rfl (Kw.R_fieldAddr (o' := o1 + i * 2) (k := 0) rfl Try.underlying31 rfl F.sz5 rfl) ?_
            refine Kw.WS_v rfl rfl rfl (Kw.R_loadc (v := .int .u8 (z : Int)) rfl Try.underlying5 rfl ((HB.cell (p := ⟨g1, o1 + i * 2, none⟩) lt1).trans hz2)) ?_
            refine Kw.WS_v rfl rfl rfl (Kw.R_rem (c := ((z % 4 : Nat) : Int)) rfl rfl (by omega) (by rw [Kw.tmod_pos (by omega)]; omega)) ?_
            refine Kw.WS_v rfl rfl rfl (Kw.R_move rfl) ?_
            refine Kw.WS_v rfl rfl rfl (Kw.R_move rfl) ?_
            refine Kw.WS_v rfl rfl rfl (Kw.R_indexAddrS (i := i) (b := g1) (o := o1) (o' := o1 + i * 2) rfl rfl Try.underlying22 F.sz31 (by omega) (by omega)) ?_
            refine Kw.WS_v rfl rfl rfl (Kw.R_fieldAddr (o' := o1 + i * 2) (k := 0) rfl Try.underlying31 rfl F.sz5 rfl) ?_
            refine Kw.WS_v rfl rfl rfl (Kw.R_loadc (v := .int .u8 (z : Int)) rfl Try.underlying5 rfl ((HB.cell (p := ⟨g1, o1 + i * 2, none⟩) lt1).trans hz2)) ?_
            refine Kw.WS_v rfl rfl rfl (Kw.R_rem (c := ((z % 4 : Nat) : Int)) rfl rfl (by omega) (by rw [Kw.tmod_pos (by omega)]; omega)) ?_
            refine Kw.WS_v rfl rfl rfl (Kw.R_indexAddrA (i := (z % 4 : Nat)) (o' := (z % 4)) rfl rfl Try.underlying29 F.sz9 (by omega) (by omega)) ?_
            refine Kw.WS_v rfl rfl rfl (Kw.R_load1 (v := .string (Ws.getD (z % 4) ⟨#[]⟩)) rfl Try.underlying9 rfl A_gw (wantA_at Ws (z % 4) (by rw [hBs.four]; omega))) ?_
            refine Kw.WS_v rfl rfl rfl (Kw.R_move rfl) ?_
            have hwl := hBs.wlen (z % 4)
            refine Kw.WS_v rfl rfl rfl (Kw.R_adds (r := ((Ws.getD (z % 4) ⟨#[]⟩) ++ (s.extract 0 mm))) rfl rfl (by omega) (rfl)) ?_
            refine Kw.WS_v rfl rfl rfl (Kw.R_indexAddrA (i := (z % 4 : Nat)) (o' := (z % 4)) rfl rfl Try.underlying29 F.sz9 (by omega) (by omega)) ?_
            refine Kw.WS_nil ?_
            refine Kw.WL_store1 (ds := wantA (Ws.set (z % 4) ((Ws.getD (z % 4) ⟨#[]⟩) ++ (s.extract 0 mm)))) rfl rfl rfl F.sz9 A_gw (by rw [wantA_size, hBs.four]; omega) rfl rfl (wantA_set _ _ _) ?_; intro w57 M_gw
            replace A_gw : Kw.At w57 gw (wantA (Ws.set (z % 4) ((Ws.getD (z % 4) ⟨#[]⟩) ++ (s.extract 0 mm)))) 29 := M_gw.at_ A_gw
            replace R_dk := R_dk.keep ((Kw.Mut.refl (fun k => k = gw) _).chg M_gw.chg (.inl rfl)) (fun k hk => hk); replace hB := Nat.le_trans hB (Nat.le_of_eq M_gw.size.symm); replace hN := fun k hk => Nat.lt_of_lt_of_le (hN k hk) (Nat.le_of_eq M_gw.size.symm)
            replace HB := M_gw.below HB G_gw; clear M_gw
            refine Kw.WL_nil ?_
            refine Kw.QN_block ?_
            refine hK29 _ _ ?_; clear hK29 K29
            refine Kw.WC_sub (l' := [(0, .slice (some ⟨g1, o1, none⟩) L.length cap1), (2, .int .i64 kp), (7, .pointer (some ⟨tb, 0, none⟩)), (10, .int .i64 (sure : Int)), (11, .int .i64 (left - mm)), (12, .pointer (some ⟨gw, 0, none⟩)), (13, .int .i64 (i : Int)), (65, undef), (66, undef), (67, undef), (70, .pointer (some ⟨tb, 0, none⟩)), (71, .slice (some ⟨g1, o1, none⟩) L.length cap1), (72, .int .i64 (i : Int)), (73, .pointer (some ⟨g1, o1 + i * 2, none⟩)), (74, .pointer (some ⟨g1, o1 + i * 2, none⟩)), (75, .int .u8 (z : Int)), (76, .int .i64 (z : Int)), (77, .int .i64 ((z % 4 : Nat) : Int)), (78, .string s), (79, .int .i64 0), (80, .bool false)]) (Kw.Sub.cons rfl (Kw.Sub.cons rfl (Kw.Sub.cons rfl (Kw.Sub.cons rfl (Kw.Sub.cons rfl (Kw.Sub.cons rfl (Kw.Sub.cons rfl (Kw.Sub.cons rfl (Kw.Sub.cons rfl (Kw.Sub.cons rfl (Kw.Sub.cons rfl (Kw.Sub.cons rfl (Kw.Sub.cons rfl (Kw.Sub.cons rfl (Kw.Sub.cons rfl (Kw.Sub.cons rfl (Kw.Sub.cons rfl (Kw.Sub.cons rfl (Kw.Sub.cons rfl (Kw.Sub.cons rfl (Kw.Sub.cons rfl Kw.Sub.nil))))))))))))))))))))) ?_
            refine Kw.WC_region [some 50, some 51, some 13] rfl ?_
            refine Kw.WL_v rfl rfl rfl (Kw.R_move rfl) ?_
            refine Kw.WL_v rfl rfl rfl (Kw.R_add (c := ((i + 1 : Nat) : Int)) rfl rfl (by rw [Kw.wrap_i64 (by omega)]; omega)) ?_
            refine Kw.WL_v rfl rfl rfl (Kw.R_assign rfl) ?_
            refine Kw.WL_nil ?_
            refine Kw.QN_round ((i + 1, (putD d ((z % 4 : Nat) : Int) s0 s.data.toList), (Ws.set (z % 4) ((Ws.getD (z % 4) ⟨#[]⟩) ++ (s.extract 0 mm))), left - mm)) ⟨⟨by (try dsimp only); omega, hBs2.put h30 hz4 hgk (by omega) (by rw [ByteArray.size_append]; omega), fun h => absurd h (by omega), fun _ => hpB.put hBs.four hz4 hgk s hmm, R_dk, hB, hN⟩, A_gw, HB⟩ (by dsimp only; omega) (Kw.Sub.cons rfl (Kw.Sub.cons rfl (Kw.Sub.cons rfl (Kw.Sub.cons rfl (Kw.Sub.cons rfl (Kw.Sub.cons rfl (Kw.Sub.cons rfl Kw.Sub.nil)))))))
      ·
        refine Kw.WL_v rfl rfl rfl (Kw.R_lss (z := false) rfl rfl (decide_eq_false c28)) ?_
        refine Kw.WL_nil ?_
        refine hK27 _ _ ?_; clear hK27 K27
        refine Kw.WC_false rfl ?_
        refine Kw.WC_exit ?_
        refine Kw.QE_then ?_; clear hK26 K26
        refine Kw.QE_then ?_
        refine Kw.QE_here ?_
        refine hK23 _ _ ?_; clear hK23 K23
        refine Kw.WC_sub (l' := [(0, .slice a1 L.length cap1), (2, .int .i64 kp), (7, .pointer (some ⟨tb, 0, none⟩)), (10, .int .i64 (sure : Int)), (12, .pointer (some ⟨gw, 0, none⟩))]) (Kw.Sub.cons rfl (Kw.Sub.cons rfl (Kw.Sub.cons rfl (Kw.Sub.cons rfl (Kw.Sub.cons rfl Kw.Sub.nil))))) ?_
        refine Kw.WC_seq (fun K58 hK58 => ?_)
        refine Kw.WC_seq (fun K59 hK59 => ?_)
        refine Kw.WC_region [some 112, some 113, some 114, some 115, some 116, some 117, some 118, some 119, some 120] rfl ?_
        refine Kw.WL_v rfl rfl rfl (Kw.R_move rfl) ?_
        refine Kw.WL_v rfl rfl rfl (Kw.R_move rfl) ?_
        refine Kw.WL_v rfl rfl rfl (Kw.R_lenl (n := L.length) Try.underlying22 rfl) ?_
        have hiL : i = L.length := by omega
        by_cases hph : sure = L.length
        ·
          have hpA := hA (by omega); have hpB := hpA.sync; have hBs2 := hBs.sync; have hsy := syncD_ok hBs.nofail
          refine Kw.WL_v rfl rfl rfl (Kw.R_eqi (z := true) rfl rfl (decide_eq_true (by omega))) ?_
          refine Kw.WL_v rfl rfl rfl (Kw.R_move rfl) ?_
          refine Kw.WL_v rfl rfl rfl (Kw.R_move rfl) ?_
          have hq_ := sync_c B (fun k => k = gw) tb d w25 hB hN R_dk hBs.up hBs.wf (by have := hBs.lef; omega)
          rw [show syncD d = (0, { d with Q := [] }) from hsy] at hq_
          refine Kw.WL_callc rfl rfl rfl rfl F.cl9 rfl hq_ ?_; rintro w60 ⟨R_2, hm⟩; clear hq_
          replace A_gw := A_gw.mut hm (fun hk => hk.2 rfl)
          clear R_dk; have R_dk : DK w60 B (fun k => k = gw) tb ({ d with Q := [] }) := R_2; clear R_2
          replace HB := Kw.Mut.below HB (Nat.le_refl _) hm (fun k hk => Nat.le_trans hB0 hk.1)
          replace hN := fun k hk => Nat.lt_of_lt_of_le (hN k hk) hm.size; replace hB := Nat.le_trans hB hm.size; clear hm
          refine Kw.WL_v rfl rfl rfl (Kw.R_nei (z := false) rfl rfl (decide_eq_true (by omega))) ?_
          refine Kw.WL_v rfl rfl rfl (Kw.R_pickt rfl rfl) ?_
          refine Kw.WL_nil ?_
          refine hK59 _ _ ?_; clear hK59 K59
          refine Kw.WC_sub (l' := [(2, .int .i64 kp), (7, .pointer (some ⟨tb, 0, none⟩)), (12, .pointer (some ⟨gw, 0, none⟩)), (120, .bool false)]) (Kw.Sub.cons rfl (Kw.Sub.cons rfl (Kw.Sub.cons rfl (Kw.Sub.cons rfl Kw.Sub.nil)))) ?_
          refine Kw.WC_false rfl ?_
          refine Kw.WC_skip ?_
          refine hK58 _ _ ?_; clear hK58 K58
          refine Kw.WC_seq (fun K61 hK61 => ?_)
          refine Kw.WC_seq (fun K62 hK62 => ?_)
          refine Kw.WC_region [some 15] rfl ?_
          refine Kw.WL_v rfl rfl rfl (Kw.R_assign rfl) ?_
          refine Kw.WL_nil ?_
          refine hK62 _ _ ?_; clear hK62 K62
          refine Kw.WC_block ?_
          refine Kw.WC_loop (ι := Nat × Dk) (fun (q : Nat × Dk) (ww : World) => match q with | ⟨t, d⟩ => (t ≤ 2 ∧ Tn t d Ws kp ∧ DK ww B (fun k => k = gw) tb d ∧ B ≤ ww.heap.size ∧ (∀ k, (fun k => k = gw) k → k < ww.heap.size)) ∧ Kw.At ww gw (wantA Ws) 29 ∧ Below w.heap.size w ww) (fun (q : Nat × Dk) => match q with | ⟨t, d⟩ => [(2, .int .i64 kp), (7, .pointer (some ⟨tb, 0, none⟩)), (12, .pointer (some ⟨gw, 0, none⟩)), (15, .int .i64 (t : Int))]) (fun (q : Nat × Dk) => match q with | ⟨t, d⟩ => 2 - t) (0, { d with Q := [] }) ⟨⟨Nat.zero_le _, Tn.start hBs2 hpB, R_dk, hB, hN⟩, A_gw, HB⟩ (Kw.Sub.cons rfl (Kw.Sub.cons rfl (Kw.Sub.cons rfl (Kw.Sub.cons rfl Kw.Sub.nil)))) ?_
          clear A_gw
          clear HB
          rintro ⟨t, d⟩ w63 ⟨⟨ht, hT, R_dk, hB, hN⟩, A_gw, HB⟩
          dsimp only at *
          refine Kw.WC_seq (fun K64 hK64 => ?_)
          refine Kw.WC_seq (fun K65 hK65 => ?_)
          refine Kw.WC_region [some 121, some 122] rfl ?_
          refine Kw.WL_v rfl rfl rfl (Kw.R_move rfl) ?_
          by_cases c66 : ((t : Int) : Int) < 2
          ·
            refine Kw.WL_v rfl rfl rfl (Kw.R_lss (z := true) rfl rfl (decide_eq_true c66)) ?_
            refine Kw.WL_nil ?_
            refine hK65 _ _ ?_; clear hK65 K65
            refine Kw.WC_true rfl ?_
            refine Kw.WC_skip ?_
            refine hK64 _ _ ?_; clear hK64 K64
            refine Kw.WC_seq (fun K67 hK67 => ?_)
            refine Kw.WC_block ?_
            refine Kw.WC_seq (fun K68 hK68 => ?_)
            refine Kw.WC_seq (fun K69 hK69 => ?_)
            refine Kw.WC_region [some 125, some 126, some 127, some 128, some 129, some 130, some 131, some 132, some 133, some 134, some 135, some 136, some 137, some 138, some 139, some 140, some 141, some 142, some 143, some 144, some 145, some 146, some 147] rfl ?_
            refine Kw.WL_v rfl rfl rfl (Kw.R_move rfl) ?_
            refine Kw.WL_v rfl rfl rfl (Kw.R_move rfl) ?_
            have hq_ := crash_c B (fun k => k = gw) tb d hT.wf hT.up w63 hB hN R_dk kp hkp
            refine Kw.WL_callc rfl rfl rfl rfl F.cl11 rfl hq_ ?_; rintro w70 ⟨R_2, hm⟩; clear hq_
            replace A_gw := A_gw.mut hm (fun hk => hk.2 rfl)
            clear R_dk; have R_dk : DK w70 B (fun k => k = gw) tb (crashD d kp) := R_2; clear R_2
            replace HB := Kw.Mut.below HB (Nat.le_refl _) hm (fun k hk => Nat.le_trans hB0 hk.1)
            replace hN := fun k hk => Nat.lt_of_lt_of_le (hN k hk) hm.size; replace hB := Nat.le_trans hB hm.size; clear hm
            refine Kw.WL_v rfl rfl rfl (Kw.R_nei (z := false) rfl rfl (decide_eq_true (by omega))) ?_
            refine Kw.WL_v rfl rfl rfl (Kw.R_move rfl) ?_
            refine Kw.WL_v rfl rfl rfl (Kw.R_move rfl) ?_
            have hq_ := down_c B (fun k => k = gw) tb (crashD d kp) w70 hB hN R_dk rfl
            refine Kw.WL_callc rfl rfl rfl rfl F.cl12 rfl (hq_) ?_; intro ww hww; rw [hww]; clear hww ww
            clear hq_
            refine Kw.WL_v rfl rfl rfl (Kw.R_pickf rfl rfl) ?_
            refine Kw.WL_v rfl rfl rfl (Kw.R_move rfl) ?_
            refine Kw.WL_v rfl rfl rfl (Kw.R_move rfl) ?_
            have hq_ := sync_down B (fun k => k = gw) tb (crashD d kp) w70 hB hN R_dk rfl
            refine Kw.WL_callc rfl rfl rfl rfl F.cl9 rfl (hq_) ?_; intro ww hww; rw [hww]; clear hww ww
            clear hq_
            refine Kw.WL_v rfl rfl rfl (Kw.R_nei (z := false) rfl rfl (decide_eq_true (by omega))) ?_
            refine Kw.WL_v rfl rfl rfl (Kw.R_pickf rfl rfl) ?_
            refine Kw.WL_v rfl rfl rfl (Kw.R_move rfl) ?_
            refine Kw.WL_v rfl rfl rfl (Kw.R_move rfl) ?_
            have hq_ := start_c B (fun k => k = gw) tb (crashD d kp) w70 hB hN R_dk rfl (by have := hT.st; show 0 ≤ d.starts ∧ d.starts ≤ _; omega)
            refine Kw.WL_callc rfl rfl rfl rfl F.cl13 rfl hq_ ?_; rintro w73 ⟨R_2, hm⟩; clear hq_
            replace A_gw := A_gw.mut hm (fun hk => hk.2 rfl)
            clear R_dk; have R_dk : DK w73 B (fun k => k = gw) tb (startD (crashD d kp)) := R_2; clear R_2
            replace HB := Kw.Mut.below HB (Nat.le_refl _) hm (fun k hk => Nat.le_trans hB0 hk.1)
            replace hN := fun k hk => Nat.lt_of_lt_of_le (hN k hk) hm.size; replace hB := Nat.le_trans hB hm.size; clear hm
            refine Kw.WL_v rfl rfl rfl (Kw.R_nei (z := false) rfl rfl (decide_eq_true (by omega))) ?_
            refine Kw.WL_v rfl rfl rfl (Kw.R_pickf rfl rfl) ?_
            refine Kw.WL_v rfl rfl rfl (Kw.R_move rfl) ?_
            refine Kw.WL_v rfl rfl rfl (Kw.R_move rfl) ?_
            have hT2 := hT.next
            have hq_ := loose_c B (fun k => k = gw) tb (startD (crashD d kp)) w73 hB hN R_dk rfl hT2.wf
            rw [show ((looseAll (Dk.Q (startD (crashD d kp))) : Nat) : Int) = 0 from rfl] at hq_
            refine Kw.WL_callc rfl rfl rfl rfl F.cl14 rfl hq_ ?_; rintro w74 hm; clear hq_
            replace A_gw := A_gw.mut hm (fun h => h)
            replace R_dk := R_dk.keep hm (fun k hk => hk.elim)
            replace HB := Kw.Mut.below HB (Nat.le_refl _) hm (fun k hk => hk.elim)
            replace hN := fun k hk => Nat.lt_of_lt_of_le (hN k hk) hm.size; replace hB := Nat.le_trans hB hm.size; clear hm
            refine Kw.WL_v rfl rfl rfl (Kw.R_nei (z := false) rfl rfl (decide_eq_true (by omega))) ?_
            refine Kw.WL_v rfl rfl rfl (Kw.R_pickf rfl rfl) ?_
            refine Kw.WL_nil ?_
            refine hK69 _ _ ?_; clear hK69 K69
            refine Kw.WC_sub (l' := [(2, .int .i64 kp), (7, .pointer (some ⟨tb, 0, none⟩)), (12, .pointer (some ⟨gw, 0, none⟩)), (15, .int .i64 (t : Int)), (130, .pointer (some ⟨tb, 0, none⟩)), (131, .bool false), (134, .pointer (some ⟨tb, 0, none⟩)), (135, .int .i64 61), (136, .bool false), (139, .pointer (some ⟨tb, 0, none⟩)), (140, .int .i64 0), (141, .bool false), (144, .pointer (some ⟨tb, 0, none⟩)), (145, .int .i64 0), (146, .bool false), (147, .bool false)]) (Kw.Sub.cons rfl (Kw.Sub.cons rfl (Kw.Sub.cons rfl (Kw.Sub.cons rfl (Kw.Sub.cons rfl (Kw.Sub.cons rfl (Kw.Sub.cons rfl (Kw.Sub.cons rfl (Kw.Sub.cons rfl (Kw.Sub.cons rfl (Kw.Sub.cons rfl (Kw.Sub.cons rfl (Kw.Sub.cons rfl (Kw.Sub.cons rfl (Kw.Sub.cons rfl (Kw.Sub.cons rfl Kw.Sub.nil)))))))))))))))) ?_
            refine Kw.WC_false rfl ?_
            refine Kw.WC_skip ?_
            refine hK68 _ _ ?_; clear hK68 K68
            refine Kw.WC_seq (fun K75 hK75 => ?_)
            refine Kw.WC_region [some 16] rfl ?_
            refine Kw.WL_v rfl rfl rfl (Kw.R_assign rfl) ?_
            refine Kw.WL_nil ?_
            refine hK75 _ _ ?_; clear hK75 K75
            refine Kw.WC_block ?_
            refine Kw.WC_loop (ι := Nat) (fun (n : Nat) (ww : World) => (n ≤ 4 ∧ DK ww B (fun k => k = gw) tb (startD (crashD d kp)) ∧ B ≤ ww.heap.size ∧ (∀ k, (fun k => k = gw) k → k < ww.heap.size)) ∧ Kw.At ww gw (wantA Ws) 29 ∧ Below w.heap.size w ww) (fun (n : Nat) => [(2, .int .i64 kp), (7, .pointer (some ⟨tb, 0, none⟩)), (12, .pointer (some ⟨gw, 0, none⟩)), (15, .int .i64 (t : Int)), (130, .pointer (some ⟨tb, 0, none⟩)), (131, .bool false), (134, .pointer (some ⟨tb, 0, none⟩)), (135, .int .i64 61), (136, .bool false), (139, .pointer (some ⟨tb, 0, none⟩)), (140, .int .i64 0), (141, .bool false), (144, .pointer (some ⟨tb, 0, none⟩)), (145, .int .i64 0), (146, .bool false), (16, .int .i64 (n : Int))]) (fun (n : Nat) => 4 - n) 0 ⟨⟨Nat.zero_le _, R_dk, hB, hN⟩, A_gw, HB⟩ (Kw.Sub.cons rfl (Kw.Sub.cons rfl (Kw.Sub.cons rfl (Kw.Sub.cons rfl (Kw.Sub.cons rfl (Kw.Sub.cons rfl (Kw.Sub.cons rfl (Kw.Sub.cons rfl (Kw.Sub.cons rfl (Kw.Sub.cons rfl (Kw.Sub.cons rfl (Kw.Sub.cons rfl (Kw.Sub.cons rfl (Kw.Sub.cons rfl (Kw.Sub.cons rfl (Kw.Sub.cons rfl Kw.Sub.nil)))))))))))))))) ?_
            clear A_gw
            clear HB
            rintro n w76 ⟨⟨hn4, R_dk, hB, hN⟩, A_gw, HB⟩
            refine Kw.WC_seq (fun K77 hK77 => ?_)
            refine Kw.WC_seq (fun K78 hK78 => ?_)
            refine Kw.WC_region [some 148, some 149] rfl ?_
            refine Kw.WL_v rfl rfl rfl (Kw.R_move rfl) ?_
            by_cases c79 : ((n : Int) : Int) < 4
            ·
              refine Kw.WL_v rfl rfl rfl (Kw.R_lss (z := true) rfl rfl (decide_eq_true c79)) ?_
              refine Kw.WL_nil ?_
              refine hK78 _ _ ?_; clear hK78 K78
              refine Kw.WC_true rfl ?_
              refine Kw.WC_skip ?_
              refine hK77 _ _ ?_; clear hK77 K77
              refine Kw.WC_seq (fun K80 hK80 => ?_)
              refine Kw.WC_block ?_
              refine Kw.WC_seq (fun K81 hK81 => ?_)
              refine Kw.WC_region [some 152, some 153, some 154, some 155, some 156, some 157, some 158] rfl ?_
              refine Kw.WL_v rfl rfl rfl (Kw.R_move rfl) ?_
              refine Kw.WL_v rfl rfl rfl (Kw.R_move rfl) ?_
              refine Kw.WL_v rfl rfl rfl (Kw.R_move rfl) ?_
              refine Kw.WL_v rfl rfl rfl (Kw.R_indexAddrA (i := n) (o' := n) rfl rfl Try.underlying29 F.sz9 (by omega) (by omega)) ?_
              refine Kw.WL_v rfl rfl rfl (Kw.R_load1 (v := .string (Ws.getD n ⟨#[]⟩)) rfl Try.underlying9 rfl A_gw (wantA_at Ws n (by rw [hT.four]; omega))) ?_
              have hq_ := reads_c B (fun k => k = gw) tb (startD (crashD d kp)) w76 hB hN R_dk rfl hT2.wf (n : Int) (by unfold okI; omega) (Ws.getD n ⟨#[]⟩) (hT.good n (by omega))
              refine Kw.WL_callc rfl rfl rfl rfl F.cl15 rfl (hq_) ?_; intro ww hww; rw [hww]; clear hww ww
              clear hq_
              refine Kw.WL_v rfl rfl rfl (Kw.R_not rfl rfl) ?_
              refine Kw.WL_nil ?_
              refine hK81 _ _ ?_; clear hK81 K81
              refine Kw.WC_sub (l' := [(2, .int .i64 kp), (7, .pointer (some ⟨tb, 0, none⟩)), (12, .pointer (some ⟨gw, 0, none⟩)), (15, .int .i64 (t : Int)), (130, .pointer (some ⟨tb, 0, none⟩)), (131, .bool false), (134, .pointer (some ⟨tb, 0, none⟩)), (135, .int .i64 61), (136, .bool false), (139, .pointer (some ⟨tb, 0, none⟩)), (140, .int .i64 0), (141, .bool false), (144, .pointer (some ⟨tb, 0, none⟩)), (145, .int .i64 0), (146, .bool false), (16, .int .i64 (n : Int)), (158, .bool false)]) (Kw.Sub.cons rfl (Kw.Sub.cons rfl (Kw.Sub.cons rfl (Kw.Sub.cons rfl (Kw.Sub.cons rfl (Kw.Sub.cons rfl (Kw.Sub.cons rfl (Kw.Sub.cons rfl (Kw.Sub.cons rfl (Kw.Sub.cons rfl (Kw.Sub.cons rfl (Kw.Sub.cons rfl (Kw.Sub.cons rfl (Kw.Sub.cons rfl (Kw.Sub.cons rfl (Kw.Sub.cons rfl (Kw.Sub.cons rfl Kw.Sub.nil))))))))))))))))) ?_
              refine Kw.WC_false rfl ?_
              refine Kw.WC_skip ?_
              refine Kw.QN_block ?_
              refine hK80 _ _ ?_; clear hK80 K80
              refine Kw.WC_region [some 150, some 151, some 16] rfl ?_
              refine Kw.WL_v rfl rfl rfl (Kw.R_move rfl) ?_
              refine Kw.WL_v rfl rfl rfl (Kw.R_add (c := ((n + 1 : Nat) : Int)) rfl rfl (by rw [Kw.wrap_i64 (by omega)]; omega)) ?_
              refine Kw.WL_v rfl rfl rfl (Kw.R_assign rfl) ?_
              refine Kw.WL_nil ?_
              refine Kw.QN_round (n + 1) ⟨⟨by omega, R_dk, hB, hN⟩, A_gw, HB⟩ (by omega) (Kw.Sub.cons rfl (Kw.Sub.cons rfl (Kw.Sub.cons rfl (Kw.Sub.cons rfl (Kw.Sub.cons rfl (Kw.Sub.cons rfl (Kw.Sub.cons rfl (Kw.Sub.cons rfl (Kw.Sub.cons rfl (Kw.Sub.cons rfl (Kw.Sub.cons rfl (Kw.Sub.cons rfl (Kw.Sub.cons rfl (Kw.Sub.cons rfl (Kw.Sub.cons rfl (Kw.Sub.cons rfl Kw.Sub.nil))))))))))))))))
            ·
              refine Kw.WL_v rfl rfl rfl (Kw.R_lss (z := false) rfl rfl (decide_eq_false c79)) ?_
              refine Kw.WL_nil ?_
              refine hK78 _ _ ?_; clear hK78 K78
              refine Kw.WC_false rfl ?_
              refine Kw.WC_exit ?_
              refine Kw.QE_then ?_; clear hK77 K77
              refine Kw.QE_then ?_
              refine Kw.QE_here ?_
              refine Kw.QN_block ?_
              refine hK67 _ _ ?_; clear hK67 K67
              refine Kw.WC_region [some 123, some 124, some 15] rfl ?_
              refine Kw.WL_v rfl rfl rfl (Kw.R_move rfl) ?_
              refine Kw.WL_v rfl rfl rfl (Kw.R_add (c := ((t + 1 : Nat) : Int)) rfl rfl (by rw [Kw.wrap_i64 (by omega)]; omega)) ?_
              refine Kw.WL_v rfl rfl rfl (Kw.R_assign rfl) ?_
              refine Kw.WL_nil ?_
              refine Kw.QN_round ((t + 1, startD (crashD d kp))) ⟨⟨by (try dsimp only); omega, hT2, R_dk, hB, hN⟩, A_gw, HB⟩ (by dsimp only; omega) (Kw.Sub.cons rfl (Kw.Sub.cons rfl (Kw.Sub.cons rfl (Kw.Sub.cons rfl Kw.Sub.nil))))
          ·
            refine Kw.WL_v rfl rfl rfl (Kw.R_lss (z := false) rfl rfl (decide_eq_false c66)) ?_
            refine Kw.WL_nil ?_
            refine hK65 _ _ ?_; clear hK65 K65
            refine Kw.WC_false rfl ?_
            refine Kw.WC_exit ?_
            refine Kw.QE_then ?_; clear hK64 K64
            refine Kw.QE_then ?_
            refine Kw.QE_here ?_
            refine hK61 _ _ ?_; clear hK61 K61
            refine Kw.WC_sub (l' := []) Kw.Sub.nil ?_
            refine Kw.WC_seq (fun K83 hK83 => ?_)
            refine Kw.WC_region [some 159, some 6] rfl ?_
            refine Kw.WL_callc rfl rfl rfl rfl F.cl6 rfl (stored_c _) ?_; intro w84 bw84
            replace A_gw := A_gw.call bw84
            replace HB := Kw.Below.then HB (Nat.le_refl _) bw84
            clear bw84
            refine Kw.WL_v rfl rfl rfl (Kw.R_assign rfl) ?_
            refine Kw.WL_nil ?_
            refine hK83 _ _ ?_; clear hK83 K83
            refine Kw.WC_ret ?_
            exact Kw.post_ret1 rfl rfl ⟨rfl, HB⟩
        ·
          have hpB := hBf (by omega); have hBs2 := hBs
          refine Kw.WL_v rfl rfl rfl (Kw.R_eqi (z := false) rfl rfl (decide_eq_false (by omega))) ?_
          refine Kw.WL_v rfl rfl rfl (Kw.R_move rfl) ?_
          refine Kw.WL_off rfl rfl rfl ?_
          refine Kw.WL_off rfl rfl rfl ?_
          refine Kw.WL_off rfl rfl rfl ?_
          refine Kw.WL_v rfl rfl rfl (Kw.R_pickf rfl rfl) ?_
          refine Kw.WL_nil ?_
          refine hK59 _ _ ?_; clear hK59 K59
          refine Kw.WC_sub (l' := [(2, .int .i64 kp), (7, .pointer (some ⟨tb, 0, none⟩)), (12, .pointer (some ⟨gw, 0, none⟩)), (120, .bool false)]) (Kw.Sub.cons rfl (Kw.Sub.cons rfl (Kw.Sub.cons rfl (Kw.Sub.cons rfl Kw.Sub.nil)))) ?_
          refine Kw.WC_false rfl ?_
          refine Kw.WC_skip ?_
          refine hK58 _ _ ?_; clear hK58 K58
          refine Kw.WC_seq (fun K85 hK85 => ?_)
          refine Kw.WC_seq (fun K86 hK86 => ?_)
          refine Kw.WC_region [some 15] rfl ?_
          refine Kw.WL_v rfl rfl rfl (Kw.R_assign rfl) ?_
          refine Kw.WL_nil ?_
          refine hK86 _ _ ?_; clear hK86 K86
          refine Kw.WC_block ?_
          refine Kw.WC_loop (ι := Nat × Dk) (fun (q : Nat × Dk) (ww : World) => match q with | ⟨t, d⟩ => (t ≤ 2 ∧ Tn t d Ws kp ∧ DK ww B (fun k => k = gw) tb d ∧ B ≤ ww.heap.size ∧ (∀ k, (fun k => k = gw) k → k < ww.heap.size)) ∧ Kw.At ww gw (wantA Ws) 29 ∧ Below w.heap.size w ww) (fun (q : Nat × Dk) => match q with | ⟨t, d⟩ => [(2, .int .i64 kp), (7, .pointer (some ⟨tb, 0, none⟩)), (12, .pointer (some ⟨gw, 0, none⟩)), (15, .int .i64 (t : Int))]) (fun (q : Nat × Dk) => match q with | ⟨t, d⟩ => 2 - t) (0, d) ⟨⟨Nat.zero_le _, Tn.start hBs2 hpB, R_dk, hB, hN⟩, A_gw, HB⟩ (Kw.Sub.cons rfl (Kw.Sub.cons rfl (Kw.Sub.cons rfl (Kw.Sub.cons rfl Kw.Sub.nil)))) ?_
          clear A_gw
          clear HB
          rintro ⟨t, d⟩ w87 ⟨⟨ht, hT, R_dk, hB, hN⟩, A_gw, HB⟩
          dsimp only at *
          refine Kw.WC_seq (fun K88 hK88 => ?_)
          refine Kw.WC_seq (fun K89 hK89 => ?_)
          refine Kw.WC_region [some 121, some 122] rfl ?_
          refine Kw.WL_v rfl rfl rfl (Kw.R_move rfl) ?_
          by_cases c90 : ((t : Int) : Int) < 2
          ·
            refine Kw.WL_v rfl rfl rfl (Kw.R_lss (z := true) rfl rfl (decide_eq_true c90)) ?_
            refine Kw.WL_nil ?_
            refine hK89 _ _ ?_; clear hK89 K89
            refine Kw.WC_true rfl ?_
            refine Kw.WC_skip ?_
            refine hK88 _ _ ?_; clear hK88 K88
            refine Kw.WC_seq (fun K91 hK91 => ?_)
            refine Kw.WC_block ?_
            refine Kw.WC_seq (fun K92 hK92 => ?_)
            refine Kw.WC_seq (fun K93 hK93 => ?_)
            refine Kw.WC_region [some 125, some 126, some 127, some 128, some 129, some 130, some 131, some 132, some 133, some 134, some 135, some 136, some 137, some 138, some 139, some 140, some 141, some 142, some 143, some 144, some 145, some 146, some 147] rfl ?_
            refine Kw.WL_v rfl rfl rfl (Kw.R_move rfl) ?_
            refine Kw.WL_v rfl rfl rfl (Kw.R_move rfl) ?_
            have hq_ := crash_c B (fun k => k = gw) tb d hT.wf hT.up w87 hB hN R_dk kp hkp
            refine Kw.WL_callc rfl rfl rfl rfl F.cl11 rfl hq_ ?_; rintro w94 ⟨R_2, hm⟩; clear hq_
            replace A_gw := A_gw.mut hm (fun hk => hk.2 rfl)
            clear R_dk; have R_dk : DK w94 B (fun k => k = gw) tb (crashD d kp) := R_2; clear R_2
            replace HB := Kw.Mut.below HB (Nat.le_refl _) hm (fun k hk => Nat.le_trans hB0 hk.1)
            replace hN := fun k hk => Nat.lt_of_lt_of_le (hN k hk) hm.size; replace hB := Nat.le_trans hB hm.size; clear hm
            refine Kw.WL_v rfl rfl rfl (Kw.R_nei (z := false) rfl rfl (decide_eq_true (by omega))) ?_
            refine Kw.WL_v rfl rfl rfl (Kw.R_move rfl) ?_
            refine Kw.WL_v rfl rfl rfl (Kw.R_move rfl) ?_
            have hq_ := down_c B (fun k => k = gw) tb (crashD d kp) w94 hB hN R_dk rfl
            refine Kw.WL_callc rfl rfl rfl rfl F.cl12 rfl (hq_) ?_; intro ww hww; rw [hww]; clear hww ww
            clear hq_
            refine Kw.WL_v rfl rfl rfl (Kw.R_pickf rfl rfl) ?_
            refine Kw.WL_v rfl rfl rfl (Kw.R_move rfl) ?_
            refine Kw.WL_v rfl rfl rfl (Kw.R_move rfl) ?_
            have hq_ := sync_down B (fun k => k = gw) tb (crashD d kp) w94 hB hN R_dk rfl
            refine Kw.WL_callc rfl rfl rfl rfl F.cl9 rfl (hq_) ?_; intro ww hww; rw [hww]; clear hww ww
            clear hq_
            refine Kw.WL_v rfl rfl rfl (Kw.R_nei (z := false) rfl rfl (decide_eq_true (by omega))) ?_
            refine Kw.WL_v rfl rfl rfl (Kw.R_pickf rfl rfl) ?_
            refine Kw.WL_v rfl rfl rfl (Kw.R_move rfl) ?_
            refine Kw.WL_v rfl rfl rfl (Kw.R_move rfl) ?_
            have hq_ := start_c B (fun k => k = gw) tb (crashD d kp) w94 hB hN R_dk rfl (by have := hT.st; show 0 ≤ d.starts ∧ d.starts ≤ _; omega)
            refine Kw.WL_callc rfl rfl rfl rfl F.cl13 rfl hq_ ?_; rintro w97 ⟨R_2, hm⟩; clear hq_
            replace A_gw := A_gw.mut hm (fun hk => hk.2 rfl)
            clear R_dk; have R_dk : DK w97 B (fun k => k = gw) tb (startD (crashD d kp)) := R_2; clear R_2
            replace HB := Kw.Mut.below HB (Nat.le_refl _) hm (fun k hk => Nat.le_trans hB0 hk.1)
            replace hN := fun k hk => Nat.lt_of_lt_of_le (hN k hk) hm.size; replace hB := Nat.le_trans hB hm.size; clear hm
            refine Kw.WL_v rfl rfl rfl (Kw.R_nei (z := false) rfl rfl (decide_eq_true (by omega))) ?_
            refine Kw.WL_v rfl rfl rfl (Kw.R_pickf rfl rfl) ?_
            refine Kw.WL_v rfl rfl rfl (Kw.R_move rfl) ?_
            refine Kw.WL_v rfl rfl rfl (Kw.R_move rfl) ?_
            have hT2 := hT.next
            have hq_ := loose_c B (fun k => k = gw) tb (startD (crashD d kp)) w97 hB hN R_dk rfl hT2.wf
            rw [show ((looseAll (Dk.Q (startD (crashD d kp))) : Nat) : Int) = 0 from rfl] at hq_
            refine Kw.WL_callc rfl rfl rfl rfl F.cl14 rfl hq_ ?_; rintro w98 hm; clear hq_
            replace A_gw := A_gw.mut hm (fun h => h)
            replace R_dk := R_dk.keep hm (fun k hk => hk.elim)
            replace HB := Kw.Mut.below HB (Nat.le_refl _) hm (fun k hk => hk.elim)
            replace hN := fun k hk => Nat.lt_of_lt_of_le (hN k hk) hm.size; replace hB := Nat.le_trans hB hm.size; clear hm
            refine Kw.WL_v rfl rfl rfl (Kw.R_nei (z := false) rfl rfl (decide_eq_true (by omega))) ?_
            refine Kw.WL_v rfl rfl rfl (Kw.R_pickf rfl rfl) ?_
            refine Kw.WL_nil ?_
            refine hK93 _ _ ?_; clear hK93 K93
            refine Kw.WC_sub (l' := [(2, .int .i64 kp), (7, .pointer (some ⟨tb, 0, none⟩)), (12, .pointer (some ⟨gw, 0, none⟩)), (15, .int .i64 (t : Int)), (130, .pointer (some ⟨tb, 0, none⟩)), (131, .bool false), (134, .pointer (some ⟨tb, 0, none⟩)), (135, .int .i64 61), (136, .bool false), (139, .pointer (some ⟨tb, 0, none⟩)), (140, .int .i64 0), (141, .bool false), (144, .pointer (some ⟨tb, 0, none⟩)), (145, .int .i64 0), (146, .bool false), (147, .bool false)]) (Kw.Sub.cons rfl (Kw.Sub.cons rfl (Kw.Sub.cons rfl (Kw.Sub.cons rfl (Kw.Sub.cons rfl (Kw.Sub.cons rfl (Kw.Sub.cons rfl (Kw.Sub.cons rfl (Kw.Sub.cons rfl (Kw.Sub.cons rfl (Kw.Sub.cons rfl (Kw.Sub.cons rfl (Kw.Sub.cons rfl (Kw.Sub.cons rfl (Kw.Sub.cons rfl (Kw.Sub.cons rfl Kw.Sub.nil)))))))))))))))) ?_
            refine Kw.WC_false rfl ?_
            refine Kw.WC_skip ?_
            refine hK92 _ _ ?_; clear hK92 K92
            refine Kw.WC_seq (fun K99 hK99 => ?_)
            refine Kw.WC_region [some 16] rfl ?_
            refine Kw.WL_v rfl rfl rfl (Kw.R_assign rfl) ?_
            refine Kw.WL_nil ?_
            refine hK99 _ _ ?_; clear hK99 K99
            refine Kw.WC_block ?_
            refine Kw.WC_loop (ι := Nat) (fun (n : Nat) (ww : World) => (n ≤ 4 ∧ DK ww B (fun k => k = gw) tb (startD (crashD d kp)) ∧ B ≤ ww.heap.size ∧ (∀ k, (fun k => k = gw) k → k < ww.heap.size)) ∧ Kw.At ww gw (wantA Ws) 29 ∧ Below w.heap.size w ww) (fun (n : Nat) => [(2, .int .i64 kp), (7, .pointer (some ⟨tb, 0, none⟩)), (12, .pointer (some ⟨gw, 0, none⟩)), (15, .int .i64 (t : Int)), (130, .pointer (some ⟨tb, 0, none⟩)), (131, .bool false), (134, .pointer (some ⟨tb, 0, none⟩)), (135, .int .i64 61), (136, .bool false), (139, .pointer (some ⟨tb, 0, none⟩)), (140, .int .i64 0), (141, .bool false), (144, .pointer (some ⟨tb, 0, none⟩)), (145, .int .i64 0), (146, .bool false), (16, .int .i64 (n : Int))]) (fun (n : Nat) => 4 - n) 0 ⟨⟨Nat.zero_le _, R_dk, hB, hN⟩, A_gw, HB⟩ (Kw.Sub.cons rfl (Kw.Sub.cons rfl (Kw.Sub.cons rfl (Kw.Sub.cons rfl (Kw.Sub.cons rfl (Kw.Sub.cons rfl (Kw.Sub.cons rfl (Kw.Sub.cons rfl (Kw.Sub.cons rfl (Kw.Sub.cons rfl (Kw.Sub.cons rfl (Kw.Sub.cons rfl (Kw.Sub.cons rfl (Kw.Sub.cons rfl (Kw.Sub.cons rfl (Kw.Sub.cons rfl Kw.Sub.nil)))))))))))))))) ?_
            clear A_gw
            clear HB
            rintro n w100 ⟨⟨hn4, R_dk, hB, hN⟩, A_gw, HB⟩
            refine Kw.WC_seq (fun K101 hK101 => ?_)
            refine Kw.WC_seq (fun K102 hK102 => ?_)
            refine Kw.WC_region [some 148, some 149] rfl ?_
            refine Kw.WL_v rfl rfl rfl (Kw.R_move rfl) ?_
            by_cases c103 : ((n : Int) : Int) < 4
            ·
              refine Kw.WL_v rfl rfl rfl (Kw.R_lss (z := true) rfl rfl (decide_eq_true c103)) ?_
              refine Kw.WL_nil ?_
              refine hK102 _ _ ?_; clear hK102 K102
              refine Kw.WC_true rfl ?_
              refine Kw.WC_skip ?_
              refine hK101 _ _ ?_; clear hK101 K101
              refine Kw.WC_seq (fun K104 hK104 => ?_)
              refine Kw.WC_block ?_
              refine Kw.WC_seq (fun K105 hK105 => ?_)
              refine Kw.WC_region [some 152, some 153, some 154, some 155, some 156, some 157, some 158] rfl ?_
              refine Kw.WL_v rfl rfl rfl (Kw.R_move rfl) ?_
              refine Kw.WL_v rfl rfl rfl (Kw.R_move rfl) ?_
              refine Kw.WL_v rfl rfl rfl (Kw.R_move rfl) ?_
              refine Kw.WL_v rfl rfl rfl (Kw.R_indexAddrA (i := n) (o' := n) rfl rfl Try.underlying29 F.sz9 (by omega) (by omega)) ?_
              refine Kw.WL_v rfl rfl rfl (Kw.R_load1 (v := .string (Ws.getD n ⟨#[]⟩)) rfl Try.underlying9 rfl A_gw (wantA_at Ws n (by rw [hT.four]; omega))) ?_
              have hq_ := reads_c B (fun k => k = gw) tb (startD (crashD d kp)) w100 hB hN R_dk rfl hT2.wf (n : Int) (by unfold okI; omega) (Ws.getD n ⟨#[]⟩) (hT.good n (by omega))
              refine Kw.WL_callc rfl rfl rfl rfl F.cl15 rfl (hq_) ?_; intro ww hww; rw [hww]; clear hww ww
              clear hq_
              refine Kw.WL_v rfl rfl rfl (Kw.R_not rfl rfl) ?_
              refine Kw.WL_nil ?_
              refine hK105 _ _ ?_; clear hK105 K105
              refine Kw.WC_sub (l' := [(2, .int .i64 kp), (7, .pointer (some ⟨tb, 0, none⟩)), (12, .pointer (some ⟨gw, 0, none⟩)), (15, .int .i64 (t : Int)), (130, .pointer (some ⟨tb, 0, none⟩)), (131, .bool false), (134, .pointer (some ⟨tb, 0, none⟩)), (135, .int .i64 61), (136, .bool false), (139, .pointer (some ⟨tb, 0, none⟩)), (140, .int .i64 0), (141, .bool false), (144, .pointer (some ⟨tb, 0, none⟩)), (145, .int .i64 0), (146, .bool false), (16, .int .i64 (n : Int)), (158, .bool false)]) (Kw.Sub.cons rfl (Kw.Sub.cons rfl (Kw.Sub.cons rfl (Kw.Sub.cons rfl (Kw.Sub.cons rfl (Kw.Sub.cons rfl (Kw.Sub.cons rfl (Kw.Sub.cons rfl (Kw.Sub.cons rfl (Kw.Sub.cons rfl (Kw.Sub.cons rfl (Kw.Sub.cons rfl (Kw.Sub.cons rfl (Kw.Sub.cons rfl (Kw.Sub.cons rfl (Kw.Sub.cons rfl (Kw.Sub.cons rfl Kw.Sub.nil))))))))))))))))) ?_
              refine Kw.WC_false rfl ?_
              refine Kw.WC_skip ?_
              refine Kw.QN_block ?_
              refine hK104 _ _ ?_; clear hK104 K104
              refine Kw.WC_region [some 150, some 151, some 16] rfl ?_
              refine Kw.WL_v rfl rfl rfl (Kw.R_move rfl) ?_
              refine Kw.WL_v rfl rfl rfl (Kw.R_add (c := ((n + 1 : Nat) : Int)) rfl rfl (by rw [Kw.wrap_i64 (by omega)]; omega)) ?_
              refine Kw.WL_v rfl rfl rfl (Kw.R_assign rfl) ?_
              refine Kw.WL_nil ?_
              refine Kw.QN_round (n + 1) ⟨⟨by omega, R_dk, hB, hN⟩, A_gw, HB⟩ (by omega) (Kw.Sub.cons rfl (Kw.Sub.cons rfl (Kw.Sub.cons rfl (Kw.Sub.cons rfl (Kw.Sub.cons rfl (Kw.Sub.cons rfl (Kw.Sub.cons rfl (Kw.Sub.cons rfl (Kw.Sub.cons rfl (Kw.Sub.cons rfl (Kw.Sub.cons rfl (Kw.Sub.cons rfl (Kw.Sub.cons rfl (Kw.Sub.cons rfl (Kw.Sub.cons rfl (Kw.Sub.cons rfl Kw.Sub.nil))))))))))))))))
            ·
              refine Kw.WL_v rfl rfl rfl (Kw.R_lss (z := false) rfl rfl (decide_eq_false c103)) ?_
              refine Kw.WL_nil ?_
              refine hK102 _ _ ?_; clear hK102 K102
              refine Kw.WC_false rfl ?_
              refine Kw.WC_exit ?_
              refine Kw.QE_then ?_; clear hK101 K101
              refine Kw.QE_then ?_
              refine Kw.QE_here ?_
              refine Kw.QN_block ?_
              refine hK91 _ _ ?_; clear hK91 K91
              refine Kw.WC_region [some 123, some 124, some 15] rfl ?_
              refine Kw.WL_v rfl rfl rfl (Kw.R_move rfl) ?_
              refine Kw.WL_v rfl rfl rfl (Kw.R_add (c := ((t + 1 : Nat) : Int)) rfl rfl (by rw [Kw.wrap_i64 (by omega)]; omega)) ?_
              refine Kw.WL_v rfl rfl rfl (Kw.R_assign rfl) ?_
              refine Kw.WL_nil ?_
              refine Kw.QN_round ((t + 1, startD (crashD d kp))) ⟨⟨by (try dsimp only); omega, hT2, R_dk, hB, hN⟩, A_gw, HB⟩ (by dsimp only; omega) (Kw.Sub.cons rfl (Kw.Sub.cons rfl (Kw.Sub.cons rfl (Kw.Sub.cons rfl Kw.Sub.nil))))
          ·
            refine Kw.WL_v rfl rfl rfl (Kw.R_lss (z := false) rfl rfl (decide_eq_false c90)) ?_
            refine Kw.WL_nil ?_
            refine hK89 _ _ ?_; clear hK89 K89
            refine Kw.WC_false rfl ?_
            refine Kw.WC_exit ?_
            refine Kw.QE_then ?_; clear hK88 K88
            refine Kw.QE_then ?_
            refine Kw.QE_here ?_
            refine hK85 _ _ ?_; clear hK85 K85
            refine Kw.WC_sub (l' := []) Kw.Sub.nil ?_
            refine Kw.WC_seq (fun K107 hK107 => ?_)
            refine Kw.WC_region [some 159, some 6] rfl ?_
            refine Kw.WL_callc rfl rfl rfl rfl F.cl6 rfl (stored_c _) ?_; intro w108 bw108
            replace A_gw := A_gw.call bw108
            replace HB := Kw.Below.then HB (Nat.le_refl _) bw108
            clear bw108
            refine Kw.WL_v rfl rfl rfl (Kw.R_assign rfl) ?_
            refine Kw.WL_nil ?_
            refine hK107 _ _ ?_; clear hK107 K107
            refine Kw.WC_ret ?_
            exact Kw.post_ret1 rfl rfl ⟨rfl, HB⟩
end Go.Proofs.Ytcmgeadakncgmaa.Fn
