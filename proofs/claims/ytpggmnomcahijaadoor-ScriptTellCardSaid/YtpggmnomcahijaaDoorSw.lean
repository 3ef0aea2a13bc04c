/- The chapter's steps. -/
import Derived.Test.YtpggmnomcahijaaDoorSq
namespace Go.Proofs.YtpggmnomcahijaaDoor.Fn
open Go Go.Proofs Go.RowKit
set_option linter.unusedVariables false
set_option linter.unusedSimpArgs false
abbrev q0 : Stp := ⟨1, 0, 0, 0, ⟨#[97]⟩⟩
abbrev q1 : Stp := ⟨3, 1, 0, 0, ⟨#[]⟩⟩
abbrev q2 : Stp := ⟨9, 3, 1, 0, ⟨#[82]⟩⟩
abbrev l0 : List Stp := [q0, q1, q2]
abbrev S0 : ByteArray := ⟨#[97, 112, 112, 101, 110, 100, 32, 120, 54, 49, 10, 116, 105, 99, 107, 32, 49, 32, 48, 10, 105, 110, 106, 101, 99, 116, 32, 51, 32, 49, 32, 120, 53, 50, 10]⟩
theorem gg0 : getL S0.data.toList = (l0, 0, 0) := by decide +kernel
theorem gg1 : getL (⟨#[112, 117, 98, 108, 105, 115, 104, 10, 112, 117, 98, 108, 105, 115, 104, 32]⟩ : ByteArray).data.toList = ([], 2, 10) := by decide +kernel
theorem gg2 : getL (⟨#[112, 117, 98, 108, 105, 115, 104]⟩ : ByteArray).data.toList = ([], 1, 10) := by decide +kernel
theorem gg3 : getL (⟨#[97, 112, 112, 101, 110, 100, 32, 120, 52, 65, 10]⟩ : ByteArray).data.toList = ([], 1, 10) := by decide +kernel
theorem gg4 : getL (⟨#[116, 105, 99, 107, 32, 49, 32, 48, 48, 10]⟩ : ByteArray).data.toList = ([], 1, 10) := by decide +kernel
theorem p0 : bA (putL l0) = S0 := by decide +kernel
theorem p0l : (putL l0).length ≤ 1000000000 := by decide +kernel
theorem s0 : decide (lineL q1 ≠ [] ∧ lineL q1 = lineL q1) = true := by decide +kernel
theorem s1 : decide (lineL q0 ≠ [] ∧ lineL q0 = lineL q1) = false := by decide +kernel
theorem s2 : decide (lineL stp0 ≠ [] ∧ lineL stp0 = lineL stp0) = false := by decide +kernel
theorem s3 : decide (lineL ⟨2, 4, 0, 0, ⟨#[]⟩⟩ ≠ [] ∧ lineL ⟨2, 4, 0, 0, ⟨#[]⟩⟩ = lineL ⟨2, 0, 0, 0, ⟨#[]⟩⟩) = true := by decide +kernel
theorem okc {k a b c : Int} {t : ByteArray} (h1 : -100 ≤ k ∧ k ≤ 100) (h2 : -100 ≤ a ∧ a ≤ 100) (h3 : -100 ≤ b ∧ b ≤ 100) (h4 : -100 ≤ c ∧ c ≤ 100) (h5 : t.size ≤ 100) : okS ⟨k, a, b, c, t⟩ ∧ (⟨k, a, b, c, t⟩ : Stp).t.size ≤ 10000000 := by
  refine ⟨⟨?_, ?_, ?_, ?_⟩, ?_⟩
  · unfold i64; dsimp only; omega
  · unfold i64; dsimp only; omega
  · unfold i64; dsimp only; omega
  · unfold i64; dsimp only; omega
  · dsimp only; omega
theorem ok0 : okS q0 ∧ q0.t.size ≤ 10000000 := okc (by decide) (by decide) (by decide) (by decide) (by decide)
theorem ok1 : okS q1 ∧ q1.t.size ≤ 10000000 := okc (by decide) (by decide) (by decide) (by decide) (by decide)
theorem ok2 : okS q2 ∧ q2.t.size ≤ 10000000 := okc (by decide) (by decide) (by decide) (by decide) (by decide)
theorem okl0 : okL l0 := fun x hx => by
  rcases List.mem_cons.1 hx with rfl | hx
  · exact ok0
  rcases List.mem_cons.1 hx with rfl | hx
  · exact ok1
  rcases List.mem_cons.1 hx with rfl | hx
  · exact ok2
  · cases hx
theorem get0 (w : World) (GG : Glob w) : Calls Tryd.prog 9 #[.string S0] w (Kw.Back fun v w' => (∃ (g cap : Nat) (cur : Array Value), v = .tuple #[.slice (some ⟨g, 0, none⟩) 3 cap, .int .i64 0, .int .i64 0] ∧ Kw.At w' g cur 30 ∧ ∀ i (h : i < l0.length) j u, (stpCells (l0[i]'h))[j]? = some u → cur[i * 5 + j]? = some u) ∧ Below w.heap.size w w') := by
  have h := get_c S0 (by decide) w GG
  rw [gg0] at h
  refine h.mono ?_
  rintro e w' ⟨v, he, ⟨lv, h1, h2⟩, hb⟩
  obtain ⟨g, cap, cur, rfl, _, hA, _, _, h4⟩ := h2.open (by decide)
  refine ⟨v, he, ⟨g, cap, cur, h1, hA, fun i hi j u hu => ?_⟩, hb⟩
  have hj : j < 5 := (Array.getElem?_eq_some_iff.1 hu).1
  have hi3 : i < 3 := hi
  rw [Kw.Own.cellAt h4 (by show i * 5 + j < 3 * 5; omega)]
  exact stpsV_at l0 i hi j u hu
theorem getE (s : ByteArray) (n : Nat) (hs : s.size ≤ 1000) (h : getL s.data.toList = ([], n, 10)) (w : World) (GG : Glob w) : Calls Tryd.prog 9 #[.string s] w (Kw.Back fun v w' => (∃ lv, v = .tuple #[lv, .int .i64 (n : Int), .int .i64 10]) ∧ Below w.heap.size w w') := by
  have h2 := get_c s (by omega) w GG
  rw [h] at h2
  exact h2.mono fun e w' ⟨v, he, ⟨lv, h1, h2⟩, hb⟩ => ⟨v, he, ⟨lv, h1⟩, hb⟩
theorem steps0 {w : World} {g : Nat} (A : Kw.At w g (stpsV l0).toArray 30) : Steps w (.slice (some ⟨g, 0, none⟩) 3 3) l0 :=
  ⟨_, _, rfl, .inr ⟨g, 0, rfl, A.lt, fun i hi j u hu => by
    rw [A.cell, Nat.zero_add, List.getElem?_toArray]
    exact stpsV_at l0 i hi j u hu⟩⟩
set_option maxRecDepth 100000 in
theorem R_eq30 {l : Kw.Env} {w : World} {D : Option Tmp} {T : TypeId} {S : String} {F : Array Edge} {g : Option (Nat × Bool)} {x y : Operand} {t2 : TypeId} (hx : Kw.ev l x = some (.agg (stpCells q2))) (hy : Kw.ev l y = some (.agg (stpCells q2))) :
    Kw.Runs Tryd.prog l ⟨D, .binOp .eql 30 x y t2, T, S, F, g⟩ w (.bool true) w :=
  Kw.run_binq hx hy (by kernel_rfl) (by kernel_rfl)

set_option maxRecDepth 100000 in
set_option maxHeartbeats 4000000 in
theorem written_c (w : World) (GG : Glob w) : Calls Tryd.prog 7 #[] w fun e w' => e = .returned (.bool true) ∧ Below w.heap.size w w' := by
  have HB : Below w.heap.size w w := Below.refl _ _
  refine Kw.enter Tryd.func7 rfl Tryd.ntmps7 rfl rfl ?_
  refine Kw.WC_seq (fun K1 hK1 => ?_)
  refine Kw.WC_region [some 0] rfl ?_
  refine Kw.WL_v rfl rfl rfl (Kw.R_assign rfl) ?_
  refine Kw.WL_nil ?_
  refine hK1 _ _ ?_; clear hK1 K1
  refine Kw.WC_seq (fun K2 hK2 => ?_)
  refine Kw.WC_region [some 18, some 19, some 20, some 21, some 1] rfl ?_
  refine Kw.WL_v rfl rfl rfl (Kw.R_build (cs := #[.int .i64 1, .int .i64 0, .int .i64 0, .int .i64 0, .string ⟨#[97]⟩]) rfl (fun w => by kernel_rfl)) ?_
  refine Kw.WL_v rfl rfl rfl (Kw.R_build (cs := #[.int .i64 3, .int .i64 1, .int .i64 0, .int .i64 0, .string ⟨#[]⟩]) rfl (fun w => by kernel_rfl)) ?_
  refine Kw.WL_v rfl rfl rfl (Kw.R_build (cs := #[.int .i64 9, .int .i64 3, .int .i64 1, .int .i64 0, .string ⟨#[82]⟩]) rfl (fun w => by kernel_rfl)) ?_
  obtain ⟨g1, w3, N_g1⟩ : ∃ b_ w2_, Kw.Newb w b_ ((stpsV l0).toArray) 30 w2_ := ⟨_, _, rfl, rfl⟩
  refine Kw.WL_v rfl rfl rfl (Kw.R_buildSlice rfl (fun w => by kernel_rfl) N_g1) ?_
  have A_g1 : Kw.At w3 g1 ((stpsV l0).toArray) 30 := N_g1.at_
  have G_g1 := N_g1.ge HB (Nat.le_refl _); replace HB := N_g1.below HB (Nat.le_refl _); clear N_g1
  refine Kw.WL_v rfl rfl rfl (Kw.R_assign rfl) ?_
  refine Kw.WL_nil ?_
  refine hK2 _ _ ?_; clear hK2 K2
  refine Kw.WC_seq (fun K4 hK4 => ?_)
  refine Kw.WC_region [some 2] rfl ?_
  refine Kw.WL_v rfl rfl rfl (Kw.R_assign rfl) ?_
  refine Kw.WL_nil ?_
  refine hK4 _ _ ?_; clear hK4 K4
  refine Kw.WC_seq (fun K5 hK5 => ?_)
  refine Kw.WC_region [some 23, some 24, some 22, some 25, some 26, some 27, some 3, some 4, some 5] rfl ?_
  refine Kw.WL_v rfl rfl rfl (Kw.R_move rfl) ?_
  refine Kw.WL_call rfl rfl rfl rfl F.cl9 rfl (get0 w3 (GG.below HB)) ?_; rintro _ w6 ⟨⟨gm, capm, curm, rfl, A_gm, hm⟩, bw6⟩
  replace A_g1 := A_g1.call bw6
  replace HB := Kw.Below.then HB (Nat.le_refl _) bw6
  clear bw6
  refine Kw.WL_v rfl rfl rfl (Kw.R_move rfl) ?_
  refine Kw.WL_v rfl rfl rfl (Kw.R_extract (v := .slice (some ⟨gm, 0, none⟩) 3 capm) rfl rfl) ?_
  refine Kw.WL_v rfl rfl rfl (Kw.R_extract (v := .int .i64 0) rfl rfl) ?_
  refine Kw.WL_v rfl rfl rfl (Kw.R_extract (v := .int .i64 0) rfl rfl) ?_
  refine Kw.WL_v rfl rfl rfl (Kw.R_assign rfl) ?_
  refine Kw.WL_v rfl rfl rfl (Kw.R_assign rfl) ?_
  refine Kw.WL_v rfl rfl rfl (Kw.R_assign rfl) ?_
  refine Kw.WL_nil ?_
  refine hK5 _ _ ?_; clear hK5 K5
  refine Kw.WC_sub (l' := [(1, .slice (some ⟨g1, 0, none⟩) 3 3), (2, .string ⟨#[97, 112, 112, 101, 110, 100, 32, 120, 54, 49, 10, 116, 105, 99, 107, 32, 49, 32, 48, 10, 105, 110, 106, 101, 99, 116, 32, 51, 32, 49, 32, 120, 53, 50, 10]⟩), (3, .slice (some ⟨gm, 0, none⟩) 3 capm), (4, .int .i64 0), (5, .int .i64 0)]) (Kw.Sub.cons rfl (Kw.Sub.cons rfl (Kw.Sub.cons rfl (Kw.Sub.cons rfl (Kw.Sub.cons rfl Kw.Sub.nil))))) ?_
  refine Kw.WC_seq (fun K7 hK7 => ?_)
  refine Kw.WC_region [some 29, some 28, some 30, some 31, some 32, some 6, some 7, some 8] rfl ?_
  refine Kw.WL_call rfl rfl rfl rfl F.cl9 rfl (getE _ 2 (by decide) gg1 w6 (GG.below HB)) ?_; rintro _ w8 ⟨⟨lv1, rfl⟩, bw8⟩
  replace A_g1 := A_g1.call bw8
  replace A_gm := A_gm.call bw8
  replace HB := Kw.Below.then HB (Nat.le_refl _) bw8
  clear bw8
  refine Kw.WL_v rfl rfl rfl (Kw.R_move rfl) ?_
  refine Kw.WL_v rfl rfl rfl (Kw.R_extract (v := lv1) rfl rfl) ?_
  refine Kw.WL_v rfl rfl rfl (Kw.R_extract (v := .int .i64 2) rfl rfl) ?_
  refine Kw.WL_v rfl rfl rfl (Kw.R_extract (v := .int .i64 10) rfl rfl) ?_
  refine Kw.WL_v rfl rfl rfl (Kw.R_assign rfl) ?_
  refine Kw.WL_v rfl rfl rfl (Kw.R_assign rfl) ?_
  refine Kw.WL_v rfl rfl rfl (Kw.R_assign rfl) ?_
  refine Kw.WL_nil ?_
  refine hK7 _ _ ?_; clear hK7 K7
  refine Kw.WC_sub (l' := [(1, .slice (some ⟨g1, 0, none⟩) 3 3), (2, .string ⟨#[97, 112, 112, 101, 110, 100, 32, 120, 54, 49, 10, 116, 105, 99, 107, 32, 49, 32, 48, 10, 105, 110, 106, 101, 99, 116, 32, 51, 32, 49, 32, 120, 53, 50, 10]⟩), (3, .slice (some ⟨gm, 0, none⟩) 3 capm), (4, .int .i64 0), (5, .int .i64 0), (7, .int .i64 2), (8, .int .i64 10)]) (Kw.Sub.cons rfl (Kw.Sub.cons rfl (Kw.Sub.cons rfl (Kw.Sub.cons rfl (Kw.Sub.cons rfl (Kw.Sub.cons rfl (Kw.Sub.cons rfl Kw.Sub.nil))))))) ?_
  refine Kw.WC_seq (fun K9 hK9 => ?_)
  refine Kw.WC_region [some 34, some 33, some 35, some 36, some 37, some 9, some 10, some 11] rfl ?_
  refine Kw.WL_call rfl rfl rfl rfl F.cl9 rfl (getE _ 1 (by decide) gg2 w8 (GG.below HB)) ?_; rintro _ w10 ⟨⟨lv2, rfl⟩, bw10⟩
  replace A_g1 := A_g1.call bw10
  replace A_gm := A_gm.call bw10
  replace HB := Kw.Below.then HB (Nat.le_refl _) bw10
  clear bw10
  refine Kw.WL_v rfl rfl rfl (Kw.R_move rfl) ?_
  refine Kw.WL_v rfl rfl rfl (Kw.R_extract (v := lv2) rfl rfl) ?_
  refine Kw.WL_v rfl rfl rfl (Kw.R_extract (v := .int .i64 1) rfl rfl) ?_
  refine Kw.WL_v rfl rfl rfl (Kw.R_extract (v := .int .i64 10) rfl rfl) ?_
  refine Kw.WL_v rfl rfl rfl (Kw.R_assign rfl) ?_
  refine Kw.WL_v rfl rfl rfl (Kw.R_assign rfl) ?_
  refine Kw.WL_v rfl rfl rfl (Kw.R_assign rfl) ?_
  refine Kw.WL_nil ?_
  refine hK9 _ _ ?_; clear hK9 K9
  refine Kw.WC_sub (l' := [(1, .slice (some ⟨g1, 0, none⟩) 3 3), (2, .string ⟨#[97, 112, 112, 101, 110, 100, 32, 120, 54, 49, 10, 116, 105, 99, 107, 32, 49, 32, 48, 10, 105, 110, 106, 101, 99, 116, 32, 51, 32, 49, 32, 120, 53, 50, 10]⟩), (3, .slice (some ⟨gm, 0, none⟩) 3 capm), (4, .int .i64 0), (5, .int .i64 0), (7, .int .i64 2), (8, .int .i64 10), (11, .int .i64 10)]) (Kw.Sub.cons rfl (Kw.Sub.cons rfl (Kw.Sub.cons rfl (Kw.Sub.cons rfl (Kw.Sub.cons rfl (Kw.Sub.cons rfl (Kw.Sub.cons rfl (Kw.Sub.cons rfl Kw.Sub.nil)))))))) ?_
  refine Kw.WC_seq (fun K11 hK11 => ?_)
  refine Kw.WC_region [some 39, some 38, some 40, some 41, some 42, some 12, some 13, some 14] rfl ?_
  refine Kw.WL_call rfl rfl rfl rfl F.cl9 rfl (getE _ 1 (by decide) gg3 w10 (GG.below HB)) ?_; rintro _ w12 ⟨⟨lv3, rfl⟩, bw12⟩
  replace A_g1 := A_g1.call bw12
  replace A_gm := A_gm.call bw12
  replace HB := Kw.Below.then HB (Nat.le_refl _) bw12
  clear bw12
  refine Kw.WL_v rfl rfl rfl (Kw.R_move rfl) ?_
  refine Kw.WL_v rfl rfl rfl (Kw.R_extract (v := lv3) rfl rfl) ?_
  refine Kw.WL_v rfl rfl rfl (Kw.R_extract (v := .int .i64 1) rfl rfl) ?_
  refine Kw.WL_v rfl rfl rfl (Kw.R_extract (v := .int .i64 10) rfl rfl) ?_
  refine Kw.WL_v rfl rfl rfl (Kw.R_assign rfl) ?_
  refine Kw.WL_v rfl rfl rfl (Kw.R_assign rfl) ?_
  refine Kw.WL_v rfl rfl rfl (Kw.R_assign rfl) ?_
  refine Kw.WL_nil ?_
  refine hK11 _ _ ?_; clear hK11 K11
  refine Kw.WC_sub (l' := [(1, .slice (some ⟨g1, 0, none⟩) 3 3), (2, .string ⟨#[97, 112, 112, 101, 110, 100, 32, 120, 54, 49, 10, 116, 105, 99, 107, 32, 49, 32, 48, 10, 105, 110, 106, 101, 99, 116, 32, 51, 32, 49, 32, 120, 53, 50, 10]⟩), (3, .slice (some ⟨gm, 0, none⟩) 3 capm), (4, .int .i64 0), (5, .int .i64 0), (7, .int .i64 2), (8, .int .i64 10), (11, .int .i64 10), (14, .int .i64 10)]) (Kw.Sub.cons rfl (Kw.Sub.cons rfl (Kw.Sub.cons rfl (Kw.Sub.cons rfl (Kw.Sub.cons rfl (Kw.Sub.cons rfl (Kw.Sub.cons rfl (Kw.Sub.cons rfl (Kw.Sub.cons rfl Kw.Sub.nil))))))))) ?_
  refine Kw.WC_seq (fun K13 hK13 => ?_)
  refine Kw.WC_region [some 44, some 43, some 45, some 46, some 47, some 15, some 16, some 17] rfl ?_
  refine Kw.WL_call rfl rfl rfl rfl F.cl9 rfl (getE _ 1 (by decide) gg4 w12 (GG.below HB)) ?_; rintro _ w14 ⟨⟨lv4, rfl⟩, bw14⟩
  replace A_g1 := A_g1.call bw14
  replace A_gm := A_gm.call bw14
  replace HB := Kw.Below.then HB (Nat.le_refl _) bw14
  clear bw14
  refine Kw.WL_v rfl rfl rfl (Kw.R_move rfl) ?_
  refine Kw.WL_v rfl rfl rfl (Kw.R_extract (v := lv4) rfl rfl) ?_
  refine Kw.WL_v rfl rfl rfl (Kw.R_extract (v := .int .i64 1) rfl rfl) ?_
  refine Kw.WL_v rfl rfl rfl (Kw.R_extract (v := .int .i64 10) rfl rfl) ?_
  refine Kw.WL_v rfl rfl rfl (Kw.R_assign rfl) ?_
  refine Kw.WL_v rfl rfl rfl (Kw.R_assign rfl) ?_
  refine Kw.WL_v rfl rfl rfl (Kw.R_assign rfl) ?_
  refine Kw.WL_nil ?_
  refine hK13 _ _ ?_; clear hK13 K13
  refine Kw.WC_sub (l' := [(1, .slice (some ⟨g1, 0, none⟩) 3 3), (2, .string ⟨#[97, 112, 112, 101, 110, 100, 32, 120, 54, 49, 10, 116, 105, 99, 107, 32, 49, 32, 48, 10, 105, 110, 106, 101, 99, 116, 32, 51, 32, 49, 32, 120, 53, 50, 10]⟩), (3, .slice (some ⟨gm, 0, none⟩) 3 capm), (4, .int .i64 0), (5, .int .i64 0), (7, .int .i64 2), (8, .int .i64 10), (11, .int .i64 10), (14, .int .i64 10), (17, .int .i64 10)]) (Kw.Sub.cons rfl (Kw.Sub.cons rfl (Kw.Sub.cons rfl (Kw.Sub.cons rfl (Kw.Sub.cons rfl (Kw.Sub.cons rfl (Kw.Sub.cons rfl (Kw.Sub.cons rfl (Kw.Sub.cons rfl (Kw.Sub.cons rfl Kw.Sub.nil)))))))))) ?_
  refine Kw.WC_seq (fun K15 hK15 => ?_)
  refine Kw.WC_sched (fun ww => Kw.At ww g1 ((stpsV l0).toArray) 30 ∧ Kw.At ww gm curm 30 ∧ True) [(0, true), (2, true), (1, false), (3, true), (4, true), (5, true), (6, true), (7, true), (8, true), (9, true), (10, true), (11, true), (12, true), (13, true), (14, true), (15, true), (16, true), (17, true), (18, true), (19, true), (20, true), (21, true), (22, true), (23, true), (24, true), (25, true), (26, true), (27, true), (28, true), (29, true), (30, true), (31, true), (32, true), (33, false), (34, true), (35, true), (36, true), (37, true), (38, true), (39, true), (40, true), (41, true), (42, false), (43, true), (44, true), (45, true), (46, true), (47, true), (48, true), (49, true), (50, true), (51, true), (52, true), (53, true), (54, true), (55, true), (56, true), (57, true), (58, true), (59, true), (60, true), (61, true), (62, true), (63, true), (64, true), (65, true), (66, true), (67, true), (68, false), (69, true), (70, true), (71, true), (72, true), (73, true), (74, false), (75, true), (76, true)] [some 48, some 49, some 50, some 51, some 52, some 53, some 54, some 55, some 56, some 57, some 58, some 59, some 60, some 61, some 62, some 63, some 64, some 65, some 66, some 67, some 68, some 69, some 70, some 71, some 72, some 73, some 74, some 75, some 76, some 77, some 78, some 79, some 80, some 81, some 82, some 83, some 84, some 85, some 86, some 87, some 88, some 89, some 90, some 91, some 92, some 93, some 94, some 95, some 96, some 97, some 98, some 99, some 100, some 101, some 102, some 103, some 104, some 105, some 106, some 107, some 108, some 109, some 110, some 111, some 112, some 113, some 114, some 115, some 116, some 117, some 118, some 119, some 120, some 121, some 122, some 123, some 0] rfl (by kernel_rfl) rfl (by kernel_rfl) ?_
  obtain ⟨w16, hww16⟩ : ∃ x : World, x = Go.World.drew w14 := ⟨_, rfl⟩
  rw [← hww16]
  replace A_g1 : Kw.At w16 g1 ((stpsV l0).toArray) 30 := by rw [hww16]; exact A_g1
  replace A_gm : Kw.At w16 gm curm 30 := by rw [hww16]; exact A_gm
  replace HB : Below w.heap.size w w16 := by rw [hww16]; exact HB.drew
  clear hww16
  have hS : Kw.At w16 g1 ((stpsV l0).toArray) 30 ∧ Kw.At w16 gm curm 30 ∧ True := ⟨A_g1, A_gm, trivial⟩
  refine Kw.WX_take rfl rfl rfl rfl (fun _ _ _ h => h) hS (fun _ ⟨A_g1, A_gm, _⟩ => Kw.R_move rfl) ?_
  refine Kw.WX_take rfl rfl rfl rfl (fun _ _ _ h => h) hS (fun _ ⟨A_g1, A_gm, _⟩ => Kw.R_move rfl) ?_
  refine Kw.WX_callc rfl rfl rfl rfl rfl F.cl8 rfl (put_c _ l0 okl0 (by decide) p0l w16 (GG.below HB) (steps0 A_g1)) ?_; intro w17 bw17
  clear hS
  replace A_g1 := A_g1.call bw17
  replace A_gm := A_gm.call bw17
  replace HB := Kw.Below.then HB (Nat.le_refl _) bw17
  have hS : Kw.At w17 g1 ((stpsV l0).toArray) 30 ∧ Kw.At w17 gm curm 30 ∧ True := ⟨A_g1, A_gm, trivial⟩
  clear bw17
  refine ⟨hS, ?_⟩
  refine Kw.WX_take rfl rfl rfl rfl (fun _ _ _ h => h) hS (fun _ ⟨A_g1, A_gm, _⟩ => Kw.R_eqs (z := true) rfl rfl (decide_eq_true p0)) ?_
  refine Kw.WX_take rfl rfl rfl rfl (fun _ _ _ h => h) hS (fun _ ⟨A_g1, A_gm, _⟩ => Kw.R_move rfl) ?_
  refine Kw.WX_take rfl rfl rfl rfl (fun _ _ _ h => h) hS (fun _ ⟨A_g1, A_gm, _⟩ => Kw.R_move rfl) ?_
  refine Kw.WX_take rfl rfl rfl rfl (fun _ _ _ h => h) hS (fun _ ⟨A_g1, A_gm, _⟩ => Kw.R_eqi (z := true) rfl rfl (by decide)) ?_
  refine Kw.WX_take rfl rfl rfl rfl (fun _ _ _ h => h) hS (fun _ ⟨A_g1, A_gm, _⟩ => Kw.R_pickt rfl rfl) ?_
  refine Kw.WX_take rfl rfl rfl rfl (fun _ _ _ h => h) hS (fun _ ⟨A_g1, A_gm, _⟩ => Kw.R_move rfl) ?_
  refine Kw.WX_take rfl rfl rfl rfl (fun _ _ _ h => h) hS (fun _ ⟨A_g1, A_gm, _⟩ => Kw.R_move rfl) ?_
  refine Kw.WX_take rfl rfl rfl rfl (fun _ _ _ h => h) hS (fun _ ⟨A_g1, A_gm, _⟩ => Kw.R_eqi (z := true) rfl rfl (by decide)) ?_
  refine Kw.WX_take rfl rfl rfl rfl (fun _ _ _ h => h) hS (fun _ ⟨A_g1, A_gm, _⟩ => Kw.R_pickt rfl rfl) ?_
  refine Kw.WX_take rfl rfl rfl rfl (fun _ _ _ h => h) hS (fun _ ⟨A_g1, A_gm, _⟩ => Kw.R_move rfl) ?_
  refine Kw.WX_take rfl rfl rfl rfl (fun _ _ _ h => h) hS (fun _ ⟨A_g1, A_gm, _⟩ => Kw.R_move rfl) ?_
  refine Kw.WX_take rfl rfl rfl rfl (fun _ _ _ h => h) hS (fun _ ⟨A_g1, A_gm, _⟩ => Kw.R_lenl Tryd.underlying22 rfl) ?_
  refine Kw.WX_take rfl rfl rfl rfl (fun _ _ _ h => h) hS (fun _ ⟨A_g1, A_gm, _⟩ => Kw.R_eqi (z := true) rfl rfl (by decide)) ?_
  refine Kw.WX_take rfl rfl rfl rfl (fun _ _ _ h => h) hS (fun _ ⟨A_g1, A_gm, _⟩ => Kw.R_pickt rfl rfl) ?_
  refine Kw.WX_take rfl rfl rfl rfl (fun _ _ _ h => h) hS (fun _ ⟨A_g1, A_gm, _⟩ => Kw.R_move rfl) ?_
  refine Kw.WX_take rfl rfl rfl rfl (fun _ _ _ h => h) hS (fun _ ⟨A_g1, A_gm, _⟩ => Kw.R_move rfl) ?_
  refine Kw.WX_take rfl rfl rfl rfl (fun _ _ _ h => h) hS (fun _ ⟨A_g1, A_gm, _⟩ => Kw.R_indexAddrS (i := 2) (o' := 10) rfl rfl Tryd.underlying22 F.sz30 (by omega) (rfl)) ?_
  refine Kw.WX_take rfl rfl rfl rfl (fun _ _ _ h => h) hS (fun _ ⟨A_g1, A_gm, _⟩ => Kw.R_loadcs (ds := stpCells q2) rfl Tryd.underlying30 rfl (by exact F.sz30) (fun j u hu => by rw [A_gm.cell]; exact hm 2 (by decide) j u hu)) ?_
  refine Kw.WX_take rfl rfl rfl rfl (fun _ _ _ h => h) hS (fun _ ⟨A_g1, A_gm, _⟩ => Kw.R_move rfl) ?_
  refine Kw.WX_take rfl rfl rfl rfl (fun _ _ _ h => h) hS (fun _ ⟨A_g1, A_gm, _⟩ => Kw.R_indexAddrS (i := 2) (o' := 10) rfl rfl Tryd.underlying22 F.sz30 (by omega) (rfl)) ?_
  refine Kw.WX_take rfl rfl rfl rfl (fun _ _ _ h => h) hS (fun _ ⟨A_g1, A_gm, _⟩ => Kw.R_loadcs (ds := stpCells q2) rfl Tryd.underlying30 rfl (by exact F.sz30) (fun j u hu => by rw [A_g1.cell, List.getElem?_toArray]; exact stpsV_at l0 2 (by decide) j u hu)) ?_
  refine Kw.WX_take rfl rfl rfl rfl (fun _ _ _ h => h) hS (fun _ ⟨A_g1, A_gm, _⟩ => R_eq30 rfl rfl) ?_
  refine Kw.WX_take rfl rfl rfl rfl (fun _ _ _ h => h) hS (fun _ ⟨A_g1, A_gm, _⟩ => Kw.R_pickt rfl rfl) ?_
  refine Kw.WX_take rfl rfl rfl rfl (fun _ _ _ h => h) hS (fun _ ⟨A_g1, A_gm, _⟩ => Kw.R_move rfl) ?_
  refine Kw.WX_take rfl rfl rfl rfl (fun _ _ _ h => h) hS (fun _ ⟨A_g1, A_gm, _⟩ => Kw.R_move rfl) ?_
  refine Kw.WX_take rfl rfl rfl rfl (fun _ _ _ h => h) hS (fun _ ⟨A_g1, A_gm, _⟩ => Kw.R_indexAddrS (i := 1) (o' := 5) rfl rfl Tryd.underlying22 F.sz30 (by omega) (rfl)) ?_
  refine Kw.WX_take rfl rfl rfl rfl (fun _ _ _ h => h) hS (fun _ ⟨A_g1, A_gm, _⟩ => Kw.R_loadcs (ds := stpCells q1) rfl Tryd.underlying30 rfl (by exact F.sz30) (fun j u hu => by rw [A_gm.cell]; exact hm 1 (by decide) j u hu)) ?_
  refine Kw.WX_take rfl rfl rfl rfl (fun _ _ _ h => h) hS (fun _ ⟨A_g1, A_gm, _⟩ => Kw.R_move rfl) ?_
  refine Kw.WX_take rfl rfl rfl rfl (fun _ _ _ h => h) hS (fun _ ⟨A_g1, A_gm, _⟩ => Kw.R_indexAddrS (i := 1) (o' := 5) rfl rfl Tryd.underlying22 F.sz30 (by omega) (rfl)) ?_
  refine Kw.WX_take rfl rfl rfl rfl (fun _ _ _ h => h) hS (fun _ ⟨A_g1, A_gm, _⟩ => Kw.R_loadcs (ds := stpCells q1) rfl Tryd.underlying30 rfl (by exact F.sz30) (fun j u hu => by rw [A_g1.cell, List.getElem?_toArray]; exact stpsV_at l0 1 (by decide) j u hu)) ?_
  refine Kw.WX_callc rfl rfl rfl rfl rfl F.cl10 rfl ((by have := same_c q1 q1 ok1 ok1 w17 (GG.below HB); rw [s0] at this; exact this)) ?_; intro w18 bw18
  clear hS
  replace A_g1 := A_g1.call bw18
  replace A_gm := A_gm.call bw18
  replace HB := Kw.Below.then HB (Nat.le_refl _) bw18
  have hS : Kw.At w18 g1 ((stpsV l0).toArray) 30 ∧ Kw.At w18 gm curm 30 ∧ True := ⟨A_g1, A_gm, trivial⟩
  clear bw18
  refine ⟨hS, ?_⟩
  refine Kw.WX_take rfl rfl rfl rfl (fun _ _ _ h => h) hS (fun _ ⟨A_g1, A_gm, _⟩ => Kw.R_pickt rfl rfl) ?_
  refine Kw.WX_take rfl rfl rfl rfl (fun _ _ _ h => h) hS (fun _ ⟨A_g1, A_gm, _⟩ => Kw.R_move rfl) ?_
  refine Kw.WX_take rfl rfl rfl rfl (fun _ _ _ h => h) hS (fun _ ⟨A_g1, A_gm, _⟩ => Kw.R_move rfl) ?_
  refine Kw.WX_take rfl rfl rfl rfl (fun _ _ _ h => h) hS (fun _ ⟨A_g1, A_gm, _⟩ => Kw.R_indexAddrS (i := 0) (o' := 0) rfl rfl Tryd.underlying22 F.sz30 (by omega) (rfl)) ?_
  refine Kw.WX_take rfl rfl rfl rfl (fun _ _ _ h => h) hS (fun _ ⟨A_g1, A_gm, _⟩ => Kw.R_loadcs (ds := stpCells q0) rfl Tryd.underlying30 rfl (by exact F.sz30) (fun j u hu => by rw [A_gm.cell]; exact hm 0 (by decide) j u hu)) ?_
  refine Kw.WX_take rfl rfl rfl rfl (fun _ _ _ h => h) hS (fun _ ⟨A_g1, A_gm, _⟩ => Kw.R_move rfl) ?_
  refine Kw.WX_take rfl rfl rfl rfl (fun _ _ _ h => h) hS (fun _ ⟨A_g1, A_gm, _⟩ => Kw.R_indexAddrS (i := 1) (o' := 5) rfl rfl Tryd.underlying22 F.sz30 (by omega) (rfl)) ?_
  refine Kw.WX_take rfl rfl rfl rfl (fun _ _ _ h => h) hS (fun _ ⟨A_g1, A_gm, _⟩ => Kw.R_loadcs (ds := stpCells q1) rfl Tryd.underlying30 rfl (by exact F.sz30) (fun j u hu => by rw [A_gm.cell]; exact hm 1 (by decide) j u hu)) ?_
  refine Kw.WX_callc rfl rfl rfl rfl rfl F.cl10 rfl ((by have := same_c q0 q1 ok0 ok1 w18 (GG.below HB); rw [s1] at this; exact this)) ?_; intro w19 bw19
  clear hS
  replace A_g1 := A_g1.call bw19
  replace A_gm := A_gm.call bw19
  replace HB := Kw.Below.then HB (Nat.le_refl _) bw19
  have hS : Kw.At w19 g1 ((stpsV l0).toArray) 30 ∧ Kw.At w19 gm curm 30 ∧ True := ⟨A_g1, A_gm, trivial⟩
  clear bw19
  refine ⟨hS, ?_⟩
  refine Kw.WX_take rfl rfl rfl rfl (fun _ _ _ h => h) hS (fun _ ⟨A_g1, A_gm, _⟩ => Kw.R_not rfl rfl) ?_
  refine Kw.WX_take rfl rfl rfl rfl (fun _ _ _ h => h) hS (fun _ ⟨A_g1, A_gm, _⟩ => Kw.R_pickt rfl rfl) ?_
  refine Kw.WX_take rfl rfl rfl rfl (fun _ _ _ h => h) hS (fun _ ⟨A_g1, A_gm, _⟩ => Kw.R_move rfl) ?_
  refine Kw.WX_take rfl rfl rfl rfl (fun _ _ _ h => h) hS (fun _ ⟨A_g1, A_gm, _⟩ => Kw.R_move rfl) ?_
  refine Kw.WX_take rfl rfl rfl rfl (fun _ _ _ h => h) hS (fun _ ⟨A_g1, A_gm, _⟩ => Kw.R_eqi (z := true) rfl rfl (by decide)) ?_
  refine Kw.WX_take rfl rfl rfl rfl (fun _ _ _ h => h) hS (fun _ ⟨A_g1, A_gm, _⟩ => Kw.R_pickt rfl rfl) ?_
  refine Kw.WX_take rfl rfl rfl rfl (fun _ _ _ h => h) hS (fun _ ⟨A_g1, A_gm, _⟩ => Kw.R_move rfl) ?_
  refine Kw.WX_take rfl rfl rfl rfl (fun _ _ _ h => h) hS (fun _ ⟨A_g1, A_gm, _⟩ => Kw.R_move rfl) ?_
  refine Kw.WX_take rfl rfl rfl rfl (fun _ _ _ h => h) hS (fun _ ⟨A_g1, A_gm, _⟩ => Kw.R_eqi (z := true) rfl rfl (by decide)) ?_
  refine Kw.WX_take rfl rfl rfl rfl (fun _ _ _ h => h) hS (fun _ ⟨A_g1, A_gm, _⟩ => Kw.R_pickt rfl rfl) ?_
  refine Kw.WX_take rfl rfl rfl rfl (fun _ _ _ h => h) hS (fun _ ⟨A_g1, A_gm, _⟩ => Kw.R_move rfl) ?_
  refine Kw.WX_take rfl rfl rfl rfl (fun _ _ _ h => h) hS (fun _ ⟨A_g1, A_gm, _⟩ => Kw.R_move rfl) ?_
  refine Kw.WX_take rfl rfl rfl rfl (fun _ _ _ h => h) hS (fun _ ⟨A_g1, A_gm, _⟩ => Kw.R_eqi (z := true) rfl rfl (by decide)) ?_
  refine Kw.WX_take rfl rfl rfl rfl (fun _ _ _ h => h) hS (fun _ ⟨A_g1, A_gm, _⟩ => Kw.R_pickt rfl rfl) ?_
  refine Kw.WX_take rfl rfl rfl rfl (fun _ _ _ h => h) hS (fun _ ⟨A_g1, A_gm, _⟩ => Kw.R_move rfl) ?_
  refine Kw.WX_take rfl rfl rfl rfl (fun _ _ _ h => h) hS (fun _ ⟨A_g1, A_gm, _⟩ => Kw.R_move rfl) ?_
  refine Kw.WX_take rfl rfl rfl rfl (fun _ _ _ h => h) hS (fun _ ⟨A_g1, A_gm, _⟩ => Kw.R_eqi (z := true) rfl rfl (by decide)) ?_
  refine Kw.WX_take rfl rfl rfl rfl (fun _ _ _ h => h) hS (fun _ ⟨A_g1, A_gm, _⟩ => Kw.R_pickt rfl rfl) ?_
  refine Kw.WX_take rfl rfl rfl rfl (fun _ _ _ h => h) hS (fun _ ⟨A_g1, A_gm, _⟩ => Kw.R_move rfl) ?_
  refine Kw.WX_take rfl rfl rfl rfl (fun _ _ _ h => h) hS (fun _ ⟨A_g1, A_gm, _⟩ => Kw.R_move rfl) ?_
  refine Kw.WX_take rfl rfl rfl rfl (fun _ _ _ h => h) hS (fun _ ⟨A_g1, A_gm, _⟩ => Kw.R_eqi (z := true) rfl rfl (by decide)) ?_
  refine Kw.WX_take rfl rfl rfl rfl (fun _ _ _ h => h) hS (fun _ ⟨A_g1, A_gm, _⟩ => Kw.R_pickt rfl rfl) ?_
  refine Kw.WX_take rfl rfl rfl rfl (fun _ _ _ h => h) hS (fun _ ⟨A_g1, A_gm, _⟩ => Kw.R_move rfl) ?_
  refine Kw.WX_take rfl rfl rfl rfl (fun _ _ _ h => h) hS (fun _ ⟨A_g1, A_gm, _⟩ => F.R_bz30) ?_
  refine Kw.WX_take rfl rfl rfl rfl (fun _ _ _ h => h) hS (fun _ ⟨A_g1, A_gm, _⟩ => F.R_bz30) ?_
  refine Kw.WX_callc rfl rfl rfl rfl rfl F.cl10 rfl ((by have := same_c stp0 stp0 (okc (by decide) (by decide) (by decide) (by decide) (by decide)) (okc (by decide) (by decide) (by decide) (by decide) (by decide)) w19 (GG.below HB); rw [s2] at this; exact this)) ?_; intro w20 bw20
  clear hS
  replace A_g1 := A_g1.call bw20
  replace A_gm := A_gm.call bw20
  replace HB := Kw.Below.then HB (Nat.le_refl _) bw20
  have hS : Kw.At w20 g1 ((stpsV l0).toArray) 30 ∧ Kw.At w20 gm curm 30 ∧ True := ⟨A_g1, A_gm, trivial⟩
  clear bw20
  refine ⟨hS, ?_⟩
  refine Kw.WX_take rfl rfl rfl rfl (fun _ _ _ h => h) hS (fun _ ⟨A_g1, A_gm, _⟩ => Kw.R_not rfl rfl) ?_
  refine Kw.WX_take rfl rfl rfl rfl (fun _ _ _ h => h) hS (fun _ ⟨A_g1, A_gm, _⟩ => Kw.R_pickt rfl rfl) ?_
  refine Kw.WX_take rfl rfl rfl rfl (fun _ _ _ h => h) hS (fun _ ⟨A_g1, A_gm, _⟩ => Kw.R_move rfl) ?_
  refine Kw.WX_take rfl rfl rfl rfl (fun _ _ _ h => h) hS (fun _ ⟨A_g1, A_gm, _⟩ => Kw.R_build (cs := #[.int .i64 2, .int .i64 4, .int .i64 0, .int .i64 0, .string ⟨#[]⟩]) rfl (fun w => by kernel_rfl)) ?_
  refine Kw.WX_take rfl rfl rfl rfl (fun _ _ _ h => h) hS (fun _ ⟨A_g1, A_gm, _⟩ => Kw.R_build (cs := #[.int .i64 2, .int .i64 0, .int .i64 0, .int .i64 0, .string ⟨#[]⟩]) rfl (fun w => by kernel_rfl)) ?_
  refine Kw.WX_callc rfl rfl rfl rfl rfl F.cl10 rfl ((by have := same_c ⟨2, 4, 0, 0, ⟨#[]⟩⟩ ⟨2, 0, 0, 0, ⟨#[]⟩⟩ (okc (by decide) (by decide) (by decide) (by decide) (by decide)) (okc (by decide) (by decide) (by decide) (by decide) (by decide)) w20 (GG.below HB); rw [s3] at this; exact this)) ?_; intro w21 bw21
  clear hS
  replace A_g1 := A_g1.call bw21
  replace A_gm := A_gm.call bw21
  replace HB := Kw.Below.then HB (Nat.le_refl _) bw21
  have hS : Kw.At w21 g1 ((stpsV l0).toArray) 30 ∧ Kw.At w21 gm curm 30 ∧ True := ⟨A_g1, A_gm, trivial⟩
  clear bw21
  refine ⟨hS, ?_⟩
  refine Kw.WX_take rfl rfl rfl rfl (fun _ _ _ h => h) hS (fun _ ⟨A_g1, A_gm, _⟩ => Kw.R_pickt rfl rfl) ?_
  refine Kw.WX_take rfl rfl rfl rfl (fun _ _ _ h => h) hS (fun _ ⟨A_g1, A_gm, _⟩ => Kw.R_assign rfl) ?_
  refine Kw.WX_nil ?_
  clear hS
  refine hK15 _ _ ?_; clear hK15 K15
  refine Kw.WC_sub (l' := [(0, .bool true)]) (Kw.Sub.cons rfl Kw.Sub.nil) ?_
  refine Kw.WC_ret ?_
  exact Kw.post_ret1 rfl rfl ⟨rfl, HB⟩
end Go.Proofs.YtpggmnomcahijaaDoor.Fn
