/- What is asked of the chapter's timers. -/
import Derived.Test.YtidoilcgdfhfiaaTm4
namespace Go.Proofs.Ytidoilcgdfhfiaa.Fn
open Go Go.Proofs Go.RowKit
set_option linter.unusedVariables false
set_option linter.unusedSimpArgs false
theorem IsDue.uniq {T : List ((Int × Int) × Int)} {now : Int} {ks ls : List (Int × Int)} (h : IsDue T now ks) (h' : IsDue T now ls) : ks = ls :=
  List.Perm.eq_of_pairwise (le := fun a b => ¬ ltK T b a) (fun a b _ _ h1 h2 => totK T a b h2 h1) h.2 h'.2 (h.1.trans h'.1.symm)

set_option maxRecDepth 100000 in
set_option maxHeartbeats 4000000 in
theorem rang_c (w : World) : Calls Try.prog 6 #[] w fun e w' => e = .returned (.bool true) ∧ Below w.heap.size w w' := by
  have HB : Below w.heap.size w w := Below.refl _ _
  refine Kw.enter Try.func6 rfl Try.ntmps6 rfl rfl ?_
  refine Kw.WC_seq (fun K1 hK1 => ?_)
  refine Kw.WC_region [some 0] rfl ?_
  refine Kw.WL_v rfl rfl rfl (Kw.R_assign rfl) ?_
  refine Kw.WL_nil ?_
  refine hK1 _ _ ?_; clear hK1 K1
  refine Kw.WC_seq (fun K2 hK2 => ?_)
  refine Kw.WC_region [some 6, some 1] rfl ?_
  refine Kw.WL_call rfl rfl rfl rfl F.cl7 rfl (new_c _) ?_; rintro _ w3 ⟨⟨tb, mb, rfl, L_mb_tb, hmbge, A_tb, A_mb⟩, bw3⟩
  have G_mb : w.heap.size ≤ mb := Nat.le_trans HB.size hmbge
  have G_tb : w.heap.size ≤ tb := by omega
  replace HB := Kw.Below.then HB (Nat.le_refl _) bw3; clear bw3 hmbge
  refine Kw.WL_v rfl rfl rfl (Kw.R_assign rfl) ?_
  refine Kw.WL_nil ?_
  refine hK2 _ _ ?_; clear hK2 K2
  refine Kw.WC_seq (fun K4 hK4 => ?_)
  refine Kw.WC_region [some 7, some 8, some 9] rfl ?_
  refine Kw.WL_v rfl rfl rfl (Kw.R_move rfl) ?_
  refine Kw.WL_v rfl rfl rfl (Kw.R_build (cs := #[.int .i64 1, .int .i64 2]) rfl (fun w => by kernel_rfl)) ?_
  refine Kw.WL_callc rfl rfl rfl rfl F.cl8 rfl (set_c (1, 2) 5 (by unfold okK; omega) tb mb ([]) _ A_tb A_mb L_mb_tb) ?_; rintro w5 ⟨B_tb, B_mb, hmut⟩
  clear A_tb A_mb; have A_tb := B_tb; have A_mb : TM w5 mb ([((1, 2), 5)]) := by exact B_mb
  clear B_tb B_mb
  replace HB := Kw.Mut.below HB (Nat.le_refl _) hmut (fun k hk => by rw [hk]; exact G_mb)
  clear hmut
  refine Kw.WL_nil ?_
  refine hK4 _ _ ?_; clear hK4 K4
  refine Kw.WC_seq (fun K6 hK6 => ?_)
  refine Kw.WC_region [some 10, some 11, some 12] rfl ?_
  refine Kw.WL_v rfl rfl rfl (Kw.R_move rfl) ?_
  refine Kw.WL_v rfl rfl rfl (Kw.R_build (cs := #[.int .i64 1, .int .i64 1]) rfl (fun w => by kernel_rfl)) ?_
  refine Kw.WL_callc rfl rfl rfl rfl F.cl8 rfl (set_c (1, 1) 5 (by unfold okK; omega) tb mb ([((1, 2), 5)]) _ A_tb A_mb L_mb_tb) ?_; rintro w7 ⟨B_tb, B_mb, hmut⟩
  clear A_tb A_mb; have A_tb := B_tb; have A_mb : TM w7 mb ([((1, 2), 5), ((1, 1), 5)]) := by exact B_mb
  clear B_tb B_mb
  replace HB := Kw.Mut.below HB (Nat.le_refl _) hmut (fun k hk => by rw [hk]; exact G_mb)
  clear hmut
  refine Kw.WL_nil ?_
  refine hK6 _ _ ?_; clear hK6 K6
  refine Kw.WC_sub (l' := [(1, .pointer (some ⟨tb, 0, none⟩))]) (Kw.Sub.cons rfl Kw.Sub.nil) ?_
  refine Kw.WC_seq (fun K8 hK8 => ?_)
  refine Kw.WC_region [some 13, some 14, some 15] rfl ?_
  refine Kw.WL_v rfl rfl rfl (Kw.R_move rfl) ?_
  refine Kw.WL_v rfl rfl rfl (Kw.R_build (cs := #[.int .i64 0, .int .i64 9]) rfl (fun w => by kernel_rfl)) ?_
  refine Kw.WL_callc rfl rfl rfl rfl F.cl8 rfl (set_c (0, 9) 7 (by unfold okK; omega) tb mb ([((1, 2), 5), ((1, 1), 5)]) _ A_tb A_mb L_mb_tb) ?_; rintro w9 ⟨B_tb, B_mb, hmut⟩
  clear A_tb A_mb; have A_tb := B_tb; have A_mb : TM w9 mb ([((1, 2), 5), ((1, 1), 5), ((0, 9), 7)]) := by exact B_mb
  clear B_tb B_mb
  replace HB := Kw.Mut.below HB (Nat.le_refl _) hmut (fun k hk => by rw [hk]; exact G_mb)
  clear hmut
  refine Kw.WL_nil ?_
  refine hK8 _ _ ?_; clear hK8 K8
  refine Kw.WC_seq (fun K10 hK10 => ?_)
  refine Kw.WC_region [some 16, some 17, some 18, some 19, some 20, some 21, some 22, some 23, some 2, some 3, some 4, some 5] rfl ?_
  refine Kw.WL_v rfl rfl rfl (Kw.R_move rfl) ?_
  refine Kw.WL_call rfl rfl rfl rfl F.cl9 rfl (due_c ([((1, 2), 5), ((1, 1), 5), ((0, 9), 7)]) 4 (by decide) tb mb _ A_tb A_mb L_mb_tb) ?_; rintro va w11 ⟨kva, hdue, O_va, B_tb, B_mb, hmut⟩
  obtain rfl : kva = ([] : List (Int × Int)) := hdue.uniq (by unfold IsDue; decide +kernel)
  have D_va_mb : Kw.ob va ≠ some mb := fun e => absurd (O_va.ge e) (Nat.not_le_of_lt A_mb.lt)
  have D_va_tb : Kw.ob va ≠ some tb := fun e => absurd (O_va.ge e) (Nat.not_le_of_lt A_tb.lt)
  replace O_va := O_va.mono HB.size
  clear A_tb A_mb; have A_tb := B_tb; have A_mb : TM w11 mb ([((1, 2), 5), ((1, 1), 5), ((0, 9), 7)]) := B_mb
  clear B_tb B_mb
  replace HB := Kw.Mut.below HB (Nat.le_refl _) hmut (fun k hk => by rw [hk]; exact G_mb)
  clear hmut
  refine Kw.WL_v rfl rfl rfl (Kw.R_move rfl) ?_
  refine Kw.WL_call rfl rfl rfl rfl F.cl9 rfl (due_c ([((1, 2), 5), ((1, 1), 5), ((0, 9), 7)]) 5 (by decide) tb mb _ A_tb A_mb L_mb_tb) ?_; rintro vb w12 ⟨kvb, hdue, O_vb, B_tb, B_mb, hmut⟩
  obtain rfl : kvb = [(1, 1), (1, 2)] := hdue.uniq (by unfold IsDue; decide +kernel)
  have D_vb_mb : Kw.ob vb ≠ some mb := fun e => absurd (O_vb.ge e) (Nat.not_le_of_lt A_mb.lt)
  have D_vb_tb : Kw.ob vb ≠ some tb := fun e => absurd (O_vb.ge e) (Nat.not_le_of_lt A_tb.lt)
  have E_va_vb : ∀ g, Kw.ob va = some g → Kw.ob vb ≠ some g := fun g h1 h2 => absurd (O_vb.ge h2) (Nat.not_le_of_lt (O_va.lt h1))
  replace O_vb := O_vb.mono HB.size
  clear A_tb A_mb; have A_tb := B_tb; have A_mb : TM w12 mb ([((0, 9), 7)]) := B_mb
  clear B_tb B_mb
  replace O_va := O_va.mut hmut (fun g hg e => D_va_mb (by rw [hg, e]))
  replace HB := Kw.Mut.below HB (Nat.le_refl _) hmut (fun k hk => by rw [hk]; exact G_mb)
  clear hmut
  refine Kw.WL_v rfl rfl rfl (Kw.R_move rfl) ?_
  refine Kw.WL_call rfl rfl rfl rfl F.cl9 rfl (due_c ([((0, 9), 7)]) 9 (by decide) tb mb _ A_tb A_mb L_mb_tb) ?_; rintro vc w13 ⟨kvc, hdue, O_vc, B_tb, B_mb, hmut⟩
  obtain rfl : kvc = [(0, 9)] := hdue.uniq (by unfold IsDue; decide +kernel)
  have D_vc_mb : Kw.ob vc ≠ some mb := fun e => absurd (O_vc.ge e) (Nat.not_le_of_lt A_mb.lt)
  have D_vc_tb : Kw.ob vc ≠ some tb := fun e => absurd (O_vc.ge e) (Nat.not_le_of_lt A_tb.lt)
  have E_va_vc : ∀ g, Kw.ob va = some g → Kw.ob vc ≠ some g := fun g h1 h2 => absurd (O_vc.ge h2) (Nat.not_le_of_lt (O_va.lt h1))
  have E_vb_vc : ∀ g, Kw.ob vb = some g → Kw.ob vc ≠ some g := fun g h1 h2 => absurd (O_vc.ge h2) (Nat.not_le_of_lt (O_vb.lt h1))
  replace O_vc := O_vc.mono HB.size
  clear A_tb A_mb; have A_tb := B_tb; have A_mb : TM w13 mb ([]) := B_mb
  clear B_tb B_mb
  replace O_va := O_va.mut hmut (fun g hg e => D_va_mb (by rw [hg, e]))
  replace O_vb := O_vb.mut hmut (fun g hg e => D_vb_mb (by rw [hg, e]))
  replace HB := Kw.Mut.below HB (Nat.le_refl _) hmut (fun k hk => by rw [hk]; exact G_mb)
  clear hmut
  refine Kw.WL_v rfl rfl rfl (Kw.R_move rfl) ?_
  refine Kw.WL_call rfl rfl rfl rfl F.cl9 rfl (due_c ([]) 9 (by decide) tb mb _ A_tb A_mb L_mb_tb) ?_; rintro vd w14 ⟨kvd, hdue, O_vd, B_tb, B_mb, hmut⟩
  obtain rfl : kvd = ([] : List (Int × Int)) := hdue.uniq (by unfold IsDue; decide +kernel)
  have D_vd_mb : Kw.ob vd ≠ some mb := fun e => absurd (O_vd.ge e) (Nat.not_le_of_lt A_mb.lt)
  have D_vd_tb : Kw.ob vd ≠ some tb := fun e => absurd (O_vd.ge e) (Nat.not_le_of_lt A_tb.lt)
  have E_va_vd : ∀ g, Kw.ob va = some g → Kw.ob vd ≠ some g := fun g h1 h2 => absurd (O_vd.ge h2) (Nat.not_le_of_lt (O_va.lt h1))
  have E_vb_vd : ∀ g, Kw.ob vb = some g → Kw.ob vd ≠ some g := fun g h1 h2 => absurd (O_vd.ge h2) (Nat.not_le_of_lt (O_vb.lt h1))
  have E_vc_vd : ∀ g, Kw.ob vc = some g → Kw.ob vd ≠ some g := fun g h1 h2 => absurd (O_vd.ge h2) (Nat.not_le_of_lt (O_vc.lt h1))
  replace O_vd := O_vd.mono HB.size
  clear A_tb A_mb; have A_tb := B_tb; have A_mb : TM w14 mb ([]) := B_mb
  clear B_tb B_mb
  replace O_va := O_va.mut hmut (fun g hg e => D_va_mb (by rw [hg, e]))
  replace O_vb := O_vb.mut hmut (fun g hg e => D_vb_mb (by rw [hg, e]))
  replace O_vc := O_vc.mut hmut (fun g hg e => D_vc_mb (by rw [hg, e]))
  replace HB := Kw.Mut.below HB (Nat.le_refl _) hmut (fun k hk => by rw [hk]; exact G_mb)
  clear hmut
  refine Kw.WL_v rfl rfl rfl (Kw.R_assign rfl) ?_
  refine Kw.WL_v rfl rfl rfl (Kw.R_assign rfl) ?_
  refine Kw.WL_v rfl rfl rfl (Kw.R_assign rfl) ?_
  refine Kw.WL_v rfl rfl rfl (Kw.R_assign rfl) ?_
  refine Kw.WL_nil ?_
  refine hK10 _ _ ?_; clear hK10 K10
  refine Kw.WC_sub (l' := [(2, va), (3, vb), (4, vc), (5, vd)]) (Kw.Sub.cons rfl (Kw.Sub.cons rfl (Kw.Sub.cons rfl (Kw.Sub.cons rfl Kw.Sub.nil)))) ?_
  refine Kw.WC_seq (fun K15 hK15 => ?_)
  refine Kw.WC_region [some 24, some 25, some 26, some 27, some 28, some 29, some 30, some 31, some 32, some 33, some 34, some 35, some 36, some 37, some 38, some 39, some 40, some 41, some 42, some 43, some 44, some 45, some 46, some 47, some 48, some 49, some 50, some 51, some 52, some 53, some 54, some 55, some 56, some 57, some 58, some 59, some 60, some 61, some 62, some 0] rfl ?_
  refine Kw.WL_v rfl rfl rfl (Kw.R_move rfl) ?_
  refine Kw.WL_v rfl rfl rfl (Kw.R_leno Try.underlying32 rfl O_va) ?_
  refine Kw.WL_v rfl rfl rfl (Kw.R_eqi (z := true) rfl rfl (decide_eq_true rfl)) ?_
  refine Kw.WL_v rfl rfl rfl (Kw.R_move rfl) ?_
  refine Kw.WL_v rfl rfl rfl (Kw.R_move rfl) ?_
  refine Kw.WL_v rfl rfl rfl (Kw.R_leno Try.underlying32 rfl O_vb) ?_
  refine Kw.WL_v rfl rfl rfl (Kw.R_eqi (z := true) rfl rfl (decide_eq_true rfl)) ?_
  refine Kw.WL_v rfl rfl rfl (Kw.R_pickt rfl rfl) ?_
  refine Kw.WL_v rfl rfl rfl (Kw.R_move rfl) ?_
  refine Kw.WL_v rfl rfl rfl (Kw.R_move rfl) ?_
  obtain ⟨gb, capgb, curgb, rfl, hBgb, A_gb, hcgb, hsgb, htgb⟩ := O_vb.open (by decide)
  replace hsgb : curgb.size = capgb * 2 := hsgb; replace hcgb : 2 ≤ capgb := hcgb
  refine Kw.WL_v rfl rfl rfl (Kw.R_indexAddrS (i := 0) (o' := 0) rfl rfl Try.underlying32 F.sz29 (by decide) (rfl)) ?_
  refine Kw.WL_v rfl rfl rfl (Kw.R_loadN (ds := #[.int .i64 1, .int .i64 1]) rfl Try.underlying29 rfl F.sz29 A_gb (by omega) (two_cells (ks := [(1, 1), (1, 2)]) htgb rfl 0 (by decide) (by show _ ≤ curgb.size; simp only [List.length_cons, List.length_nil]; omega))) ?_
  refine Kw.WL_v rfl rfl rfl (Kw.R_build (cs := #[.int .i64 1, .int .i64 1]) rfl (fun w => by kernel_rfl)) ?_
  refine Kw.WL_v rfl rfl rfl (Kw.R_eqK (a := (1, 1)) (b := (1, 1)) E29 rfl rfl (by unfold okK; omega) (by unfold okK; omega) ⟨_, rfl⟩ (decide_eq_true rfl)) ?_
  refine Kw.WL_v rfl rfl rfl (Kw.R_pickt rfl rfl) ?_
  refine Kw.WL_v rfl rfl rfl (Kw.R_move rfl) ?_
  refine Kw.WL_v rfl rfl rfl (Kw.R_move rfl) ?_
  refine Kw.WL_v rfl rfl rfl (Kw.R_indexAddrS (i := 1) (o' := 2) rfl rfl Try.underlying32 F.sz29 (by decide) (rfl)) ?_
  refine Kw.WL_v rfl rfl rfl (Kw.R_loadN (ds := #[.int .i64 1, .int .i64 2]) rfl Try.underlying29 rfl F.sz29 A_gb (by omega) (two_cells (ks := [(1, 1), (1, 2)]) htgb rfl 1 (by decide) (by show _ ≤ curgb.size; simp only [List.length_cons, List.length_nil]; omega))) ?_
  refine Kw.WL_v rfl rfl rfl (Kw.R_build (cs := #[.int .i64 1, .int .i64 2]) rfl (fun w => by kernel_rfl)) ?_
  refine Kw.WL_v rfl rfl rfl (Kw.R_eqK (a := (1, 2)) (b := (1, 2)) E29 rfl rfl (by unfold okK; omega) (by unfold okK; omega) ⟨_, rfl⟩ (decide_eq_true rfl)) ?_
  refine Kw.WL_v rfl rfl rfl (Kw.R_pickt rfl rfl) ?_
  refine Kw.WL_v rfl rfl rfl (Kw.R_move rfl) ?_
  refine Kw.WL_v rfl rfl rfl (Kw.R_move rfl) ?_
  refine Kw.WL_v rfl rfl rfl (Kw.R_leno Try.underlying32 rfl O_vc) ?_
  refine Kw.WL_v rfl rfl rfl (Kw.R_eqi (z := true) rfl rfl (decide_eq_true rfl)) ?_
  refine Kw.WL_v rfl rfl rfl (Kw.R_pickt rfl rfl) ?_
  refine Kw.WL_v rfl rfl rfl (Kw.R_move rfl) ?_
  refine Kw.WL_v rfl rfl rfl (Kw.R_move rfl) ?_
  obtain ⟨gc, capgc, curgc, rfl, hBgc, A_gc, hcgc, hsgc, htgc⟩ := O_vc.open (by decide)
  replace hsgc : curgc.size = capgc * 2 := hsgc; replace hcgc : 1 ≤ capgc := hcgc
  refine Kw.WL_v rfl rfl rfl (Kw.R_indexAddrS (i := 0) (o' := 0) rfl rfl Try.underlying32 F.sz29 (by decide) (rfl)) ?_
  refine Kw.WL_v rfl rfl rfl (Kw.R_loadN (ds := #[.int .i64 0, .int .i64 9]) rfl Try.underlying29 rfl F.sz29 A_gc (by omega) (two_cells (ks := [(0, 9)]) htgc rfl 0 (by decide) (by show _ ≤ curgc.size; simp only [List.length_cons, List.length_nil]; omega))) ?_
  refine Kw.WL_v rfl rfl rfl (Kw.R_build (cs := #[.int .i64 0, .int .i64 9]) rfl (fun w => by kernel_rfl)) ?_
  refine Kw.WL_v rfl rfl rfl (Kw.R_eqK (a := (0, 9)) (b := (0, 9)) E29 rfl rfl (by unfold okK; omega) (by unfold okK; omega) ⟨_, rfl⟩ (decide_eq_true rfl)) ?_
  refine Kw.WL_v rfl rfl rfl (Kw.R_pickt rfl rfl) ?_
  refine Kw.WL_v rfl rfl rfl (Kw.R_move rfl) ?_
  refine Kw.WL_v rfl rfl rfl (Kw.R_move rfl) ?_
  refine Kw.WL_v rfl rfl rfl (Kw.R_leno Try.underlying32 rfl O_vd) ?_
  refine Kw.WL_v rfl rfl rfl (Kw.R_eqi (z := true) rfl rfl (decide_eq_true rfl)) ?_
  refine Kw.WL_v rfl rfl rfl (Kw.R_pickt rfl rfl) ?_
  refine Kw.WL_v rfl rfl rfl (Kw.R_assign rfl) ?_
  refine Kw.WL_nil ?_
  refine hK15 _ _ ?_; clear hK15 K15
  refine Kw.WC_sub (l' := [(0, .bool true)]) (Kw.Sub.cons rfl Kw.Sub.nil) ?_
  refine Kw.WC_ret ?_
  exact Kw.post_ret1 rfl rfl ⟨rfl, HB⟩
end Go.Proofs.Ytidoilcgdfhfiaa.Fn
