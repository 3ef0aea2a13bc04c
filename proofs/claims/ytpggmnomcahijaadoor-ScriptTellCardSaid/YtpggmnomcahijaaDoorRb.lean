/- The document's steps, got and put. -/
import Derived.Test.YtpggmnomcahijaaDoorRa
namespace Go.Proofs.YtpggmnomcahijaaDoor.Fn
open Go Go.Proofs Go.RowKit
set_option linter.unusedVariables false
set_option linter.unusedSimpArgs false
def pr (W : List (List UInt8)) (i j : Nat) : Int := if j < i then numR (W.getD (1 + j) []) else 0
def rstepX (k : Nat) (W : List (List UInt8)) : Stp := ⟨k, pr W (numsN k) 0, pr W (numsN k) 1, pr W (numsN k) 2, if txtB k then bA (readL (W.getD (1 + numsN k) []).tail) else ⟨#[]⟩⟩
def rstepF (s : List UInt8) : Stp × Bool :=
  match findK ((splitL 32 s).getD 0 []) 13 with
  | none => (stp0, false)
  | some k => (rstepX k (splitL 32 s), decide (lineL (rstepX k (splitL 32 s)) = s ++ [10]))
theorem rstepF_none {s : List UInt8} (h : findK ((splitL 32 s).getD 0 []) 13 = none) : rstepF s = (stp0, false) := by unfold rstepF; rw [h]
theorem rstepF_hit {s : List UInt8} {k : Nat} {X : Stp} (h : findK ((splitL 32 s).getD 0 []) 13 = some k) (hX : rstepX k (splitL 32 s) = X) : rstepF s = (X, decide (lineL X = s ++ [10])) := by
  unfold rstepF; rw [h]; dsimp only; rw [hX]
theorem pr_i64 (W : List (List UInt8)) (i j : Nat) : i64 (pr W i j) := by
  unfold pr; split
  · exact numR_i64 _
  · unfold i64; omega
theorem getD_pad (W : List (List UInt8)) (j : Nat) : (W ++ [[], [], [], []]).getD j [] = W.getD j [] := by
  rw [List.getD_eq_getElem?_getD, List.getD_eq_getElem?_getD]
  rcases Nat.lt_or_ge j W.length with h | h
  · rw [List.getElem?_append_left h]
  · rw [List.getElem?_append_right h, List.getElem?_eq_none h]
    rcases Nat.lt_or_ge (j - W.length) 4 with h4 | h4
    · have : j - W.length = 0 ∨ j - W.length = 1 ∨ j - W.length = 2 ∨ j - W.length = 3 := by omega
      rcases this with e | e | e | e <;> rw [e] <;> rfl
    · rw [List.getElem?_eq_none (by simpa using h4)]
def rCells (W : List (List UInt8)) (i : Nat) : Array Value := #[.int .i64 (pr W i 0), .int .i64 (pr W i 1), .int .i64 (pr W i 2)]
theorem rCells_set (W : List (List UInt8)) {i : Nat} (h : i < 3) : (rCells W i).setIfInBounds i (.int .i64 (numR (W.getD (1 + i) []))) = rCells W (i + 1) := by
  have : i = 0 ∨ i = 1 ∨ i = 2 := by omega
  rcases this with rfl | rfl | rfl <;> rfl
theorem number_w (l : List UInt8) (hs : l.length ≤ 1000000000) (w : World) : Calls Tryd.prog 35 #[.string (bA l)] w fun e w' => e = .returned (.int .i64 (numR l)) ∧ w' = w := by
  have := number_c (bA l) (by rw [bA_size]; exact hs) w
  rw [bA_back] at this; exact this
theorem read_w (l : List UInt8) (hs : l.length ≤ 1000000000) (w : World) : Calls Tryd.prog 36 #[.string (bA l)] w fun e w' => e = .returned (.string (bA (readL l.tail))) ∧ Below w.heap.size w w' := by
  have := read_c (bA l) (by rw [bA_size]; exact hs) w
  rw [bA_back] at this; exact this

set_option maxRecDepth 100000 in
set_option maxHeartbeats 4000000 in
theorem rstep_c (s : ByteArray) (hs : s.size ≤ 1000000) (w : World) : Calls Tryd.prog 20 #[.string s] w fun e w' => e = .returned (.tuple #[.agg (stpCells (rstepF s.data.toList).1), .bool (rstepF s.data.toList).2]) ∧ Below w.heap.size w w' := by
  have HB : Below w.heap.size w w := Below.refl _ _
  refine Kw.enter Tryd.func20 rfl Tryd.ntmps20 rfl rfl ?_
  refine Kw.WC_seq (fun K1 hK1 => ?_)
  refine Kw.WC_region [some 2, some 3] rfl ?_
  refine Kw.WL_alloc rfl rfl F.zr35 ?_; intro g2 w2 N_g2
  have A_g2 : Kw.At w2 g2 F.Z35 35 := N_g2.at_
  have G_g2 := N_g2.ge HB (Nat.le_refl _); replace HB := N_g2.below HB (Nat.le_refl _); clear N_g2
  refine Kw.WL_v rfl rfl rfl (Kw.R_assign rfl) ?_
  refine Kw.WL_nil ?_
  refine hK1 _ _ ?_; clear hK1 K1
  refine Kw.WC_seq (fun K3 hK3 => ?_)
  refine Kw.WC_region [some 10, some 11, some 4] rfl ?_
  refine Kw.WL_v rfl rfl rfl (Kw.R_move rfl) ?_
  have A2lt := A_g2.lt
  refine Kw.WL_call rfl rfl rfl rfl F.cl34 rfl (words_c s (by omega) w2) ?_; rintro v w4 ⟨O_v, bw4⟩
  replace A_g2 := A_g2.call bw4
  have hWl := splitL_len 32 s.data.toList
  obtain ⟨gv, capv, curv, hv, G0_gv, A_gv, h1v, h2v, h3v, h4v⟩ : ∃ g cap cur, v = .slice (some ⟨g, 0, none⟩) (splitL 32 s.data.toList).length cap ∧ w2.heap.size ≤ g ∧ Kw.At w4 g cur 9 ∧ (splitL 32 s.data.toList).length ≤ cap ∧ cap ≤ maxLen ∧ cur.size = cap * 1 ∧ cur.toList.take ((splitL 32 s.data.toList).length * 1) = wsV (splitL 32 s.data.toList) := O_v.2.resolve_left (fun h => by have := h.2; omega)
  subst hv
  clear O_v
  have L_g2_gv : g2 < gv := (Nat.lt_of_lt_of_le A2lt G0_gv)
  have G_gv : w.heap.size ≤ gv := Nat.le_trans HB.size G0_gv
  replace HB := Kw.Below.then HB (Nat.le_refl _) bw4
  clear bw4
  obtain ⟨W, hW⟩ : ∃ W, W = splitL 32 s.data.toList := ⟨_, rfl⟩
  rw [← hW] at hWl h1v h4v ⊢
  have hWw := split_word 32 s.data.toList; rw [← hW, size_list] at hWw
  have hWn := splitL_count 32 s.data.toList; rw [← hW, size_list] at hWn
  refine Kw.WL_v rfl rfl rfl (Kw.R_assign rfl) ?_
  refine Kw.WL_nil ?_
  refine hK3 _ _ ?_; clear hK3 K3
  refine Kw.WC_seq (fun K5 hK5 => ?_)
  refine Kw.WC_seq (fun K6 hK6 => ?_)
  refine Kw.WC_region [some 5] rfl ?_
  refine Kw.WL_v rfl rfl rfl (Kw.R_assign rfl) ?_
  refine Kw.WL_nil ?_
  refine hK6 _ _ ?_; clear hK6 K6
  refine Kw.WC_block ?_
  refine Kw.WC_loop (ι := Nat) (fun (k : Nat) (ww : World) => (1 ≤ k ∧ k ≤ 14 ∧ findK (W.getD 0 []) 13 = findK (W.getD 0 []) (14 - k)) ∧ Kw.At ww g2 F.Z35 35 ∧ Kw.At ww gv curv 9 ∧ Below w.heap.size w ww) (fun (k : Nat) => [(0, .string s), (2, .pointer (some ⟨g2, 0, none⟩)), (4, .slice (some ⟨gv, 0, none⟩) W.length capv), (5, .int .i64 (k : Int))]) (fun (k : Nat) => 14 - k) 1 ⟨⟨by omega, by omega, rfl⟩, A_g2, A_gv, HB⟩ (Kw.Sub.cons rfl (Kw.Sub.cons rfl (Kw.Sub.cons rfl (Kw.Sub.cons rfl Kw.Sub.nil)))) ?_
  clear A_g2
  clear A_gv
  clear HB
  rintro k w7 ⟨⟨hk1, hk2, hinv⟩, A_g2, A_gv, HB⟩
  refine Kw.WC_seq (fun K8 hK8 => ?_)
  refine Kw.WC_seq (fun K9 hK9 => ?_)
  refine Kw.WC_region [some 12, some 13] rfl ?_
  refine Kw.WL_v rfl rfl rfl (Kw.R_move rfl) ?_
  by_cases c10 : (k : Int) ≤ 13
  ·
    refine Kw.WL_v rfl rfl rfl (Kw.R_leq (z := true) rfl rfl (decide_eq_true c10)) ?_
    have hke := wordK_eq (k := k) ⟨hk1, by omega⟩
    have hn3 := numsN_le k
    refine Kw.WL_nil ?_
    refine hK9 _ _ ?_; clear hK9 K9
    refine Kw.WC_true rfl ?_
    refine Kw.WC_skip ?_
    refine hK8 _ _ ?_; clear hK8 K8
    refine Kw.WC_seq (fun K11 hK11 => ?_)
    refine Kw.WC_block ?_
    refine Kw.WC_seq (fun K12 hK12 => ?_)
    refine Kw.WC_seq (fun K13 hK13 => ?_)
    refine Kw.WC_sched (fun ww => Kw.At ww g2 F.Z35 35 ∧ Kw.At ww gv curv 9 ∧ True) [(0, true), (2, true), (3, true), (4, true), (1, false), (5, true)] [some 16, some 17, some 18, some 19, some 20, some 21] rfl (by kernel_rfl) rfl (by kernel_rfl) ?_
    obtain ⟨w14, hww14⟩ : ∃ x : World, x = Go.World.drew w7 := ⟨_, rfl⟩
    rw [← hww14]
    replace A_g2 : Kw.At w14 g2 F.Z35 35 := by rw [hww14]; exact A_g2
    replace A_gv : Kw.At w14 gv curv 9 := by rw [hww14]; exact A_gv
    replace HB : Below w.heap.size w w14 := by rw [hww14]; exact HB.drew
    clear hww14
    have hS : Kw.At w14 g2 F.Z35 35 ∧ Kw.At w14 gv curv 9 ∧ True := ⟨A_g2, A_gv, trivial⟩
    refine Kw.WX_take rfl rfl rfl rfl (fun _ _ _ h => h) hS (fun _ ⟨A_g2, A_gv, _⟩ => Kw.R_move rfl) ?_
    refine Kw.WX_take rfl rfl rfl rfl (fun _ _ _ h => h) hS (fun _ ⟨A_g2, A_gv, _⟩ => Kw.R_move rfl) ?_
    refine Kw.WX_take rfl rfl rfl rfl (fun _ _ _ h => h) hS (fun _ ⟨A_g2, A_gv, _⟩ => Kw.R_indexAddrS (i := 0) (o' := 0) rfl rfl Tryd.underlying61 F.sz9 (by omega) (rfl)) ?_
    refine Kw.WX_take rfl rfl rfl rfl (fun _ _ _ h => h) hS (fun _ ⟨A_g2, A_gv, _⟩ => Kw.R_load1 (v := .string (bA (W.getD 0 []))) rfl Tryd.underlying9 rfl A_gv (words_at h4v rfl (by omega))) ?_
    refine Kw.WX_callc rfl rfl rfl rfl rfl F.cl29 rfl ((by have := word_c (k : Int) w14; rw [hke.1] at this; exact this)) ?_; intro w15 bw15
    rw [bw15]; clear bw15
    refine ⟨hS, ?_⟩
    by_cases cw : bA (wordL k) = bA (W.getD 0 [])
    ·
      refine Kw.WX_take rfl rfl rfl rfl (fun _ _ _ h => h) hS (fun _ ⟨A_g2, A_gv, _⟩ => Kw.R_nes (z := false) rfl rfl (decide_eq_true cw)) ?_
      have hFk : findK (W.getD 0 []) 13 = some k := by rw [hinv]; exact findK_hit (by omega) (bA_inj cw)
      clear hinv
      refine Kw.WX_nil ?_
      clear hS
      refine hK13 _ _ ?_; clear hK13 K13
      refine Kw.WC_sub (l' := [(0, .string s), (2, .pointer (some ⟨g2, 0, none⟩)), (4, .slice (some ⟨gv, 0, none⟩) W.length capv), (5, .int .i64 (k : Int)), (21, .bool false)]) (Kw.Sub.cons rfl (Kw.Sub.cons rfl (Kw.Sub.cons rfl (Kw.Sub.cons rfl (Kw.Sub.cons rfl Kw.Sub.nil))))) ?_
      refine Kw.WC_false rfl ?_
      refine Kw.WC_skip ?_
      refine hK12 _ _ ?_; clear hK12 K12
      refine Kw.WC_seq (fun K16 hK16 => ?_)
      refine Kw.WC_region [some 22, some 23, some 24, some 4] rfl ?_
      refine Kw.WL_v rfl rfl rfl (Kw.R_move rfl) ?_
      obtain ⟨v, hv⟩ : ∃ x : Value, x = .slice (some ⟨gv, 0, none⟩) W.length capv := ⟨_, rfl⟩
      rw [← hv]
      have O_v : Kw.Own w14 w.heap.size 9 1 v W.length (wsV W) := by
        rw [hv, ← h4v]; exact Kw.Own.made G_gv A_gv h1v h2v h3v
      have D_v_g2 : Kw.ob v ≠ some g2 := by rw [hv]; intro h; cases h; exact absurd rfl (Nat.ne_of_gt L_g2_gv)
      clear A_gv
      obtain ⟨ge, w17, N_ge⟩ : ∃ b_ w2_, Kw.Newb w14 b_ #[.string ⟨#[]⟩, .string ⟨#[]⟩, .string ⟨#[]⟩, .string ⟨#[]⟩] 9 w2_ := ⟨_, _, rfl, rfl⟩
      refine Kw.WL_v rfl rfl rfl (Kw.R_buildSlice rfl (fun w => by kernel_rfl) N_ge) ?_
      have L_g2_ge := N_ge.ne A_g2; replace A_g2 := N_ge.keep A_g2
      have A_ge : Kw.At w17 ge #[.string ⟨#[]⟩, .string ⟨#[]⟩, .string ⟨#[]⟩, .string ⟨#[]⟩] 9 := N_ge.at_
      have D_v_ge := O_v.ne_new N_ge; replace O_v := O_v.new N_ge
      have G_ge := N_ge.ge HB (Nat.le_refl _); replace HB := N_ge.below HB (Nat.le_refl _); clear N_ge
      refine Kw.WL_append rfl rfl rfl rfl Tryd.underlying61 Tryd.underlying61 (.inr ⟨_, rfl⟩) F.sz9 F.by9 F.ze9 rfl O_v (Kw.News.row (news := [.string ⟨#[]⟩, .string ⟨#[]⟩, .string ⟨#[]⟩, .string ⟨#[]⟩]) A_ge rfl rfl (by simp [Value.oneCell'])) (by unfold maxLen; omega) (by omega) HB.size ?_; intro v24 w18 O_v24 R_v24
      have D_v24_g2 := R_v24.ne A_g2 D_v_g2
      replace A_g2 := R_v24.keep A_g2 D_v_g2
      have D_v24_ge := R_v24.ne A_ge D_v_ge
      replace A_ge := R_v24.keep A_ge D_v_ge
      replace HB := R_v24.below HB (Nat.le_refl _) (fun g hg => O_v.ge hg); clear R_v24
      replace O_v24 : Kw.Own w18 w.heap.size 9 1 v24 ((W ++ [[], [], [], []]).length) (wsV (W ++ [[], [], [], []])) := by rw [wsV_app, List.length_append]; exact O_v24
      clear O_v
      clear A_ge
      have hpl : (W ++ [[], [], [], []]).length = W.length + 4 := by rw [List.length_append]; rfl
      obtain ⟨g4, cap4, cur4, hv4, G_g4, A_g4, h14, h24, h34, h44⟩ : ∃ g cap cur, v24 = .slice (some ⟨g, 0, none⟩) (W ++ [[], [], [], []]).length cap ∧ w.heap.size ≤ g ∧ Kw.At w18 g cur 9 ∧ (W ++ [[], [], [], []]).length ≤ cap ∧ cap ≤ maxLen ∧ cur.size = cap * 1 ∧ cur.toList.take ((W ++ [[], [], [], []]).length * 1) = wsV (W ++ [[], [], [], []]) := O_v24.2.resolve_left (fun h => by have := h.2; omega)
      have Dn : g2 ≠ g4 := fun e => D_v24_g2 (by rw [hv4, ← e]; rfl)
      subst hv4
      clear O_v24
      have NE_g2_g4 : g2 ≠ g4 := Dn
      refine Kw.WL_v rfl rfl rfl (Kw.R_assign rfl) ?_
      refine Kw.WL_nil ?_
      refine hK16 _ _ ?_; clear hK16 K16
      refine Kw.WC_seq (fun K19 hK19 => ?_)
      refine Kw.WC_region [some 25, some 26, some 6] rfl ?_
      refine Kw.WL_v rfl rfl rfl (Kw.R_move rfl) ?_
      refine Kw.WL_callc rfl rfl rfl rfl F.cl30 rfl ((by have := numbers_c (k : Int) w18; rw [hke.2.1] at this; exact this)) ?_; intro ww hww; rw [hww]; clear hww ww
      refine Kw.WL_v rfl rfl rfl (Kw.R_assign rfl) ?_
      refine Kw.WL_nil ?_
      refine hK19 _ _ ?_; clear hK19 K19
      refine Kw.WC_sub (l' := [(0, .string s), (2, .pointer (some ⟨g2, 0, none⟩)), (4, .slice (some ⟨g4, 0, none⟩) ((W ++ [[], [], [], []]).length) cap4), (5, .int .i64 (k : Int)), (6, .int .i64 (numsN k : Int))]) (Kw.Sub.cons rfl (Kw.Sub.cons rfl (Kw.Sub.cons rfl (Kw.Sub.cons rfl (Kw.Sub.cons rfl Kw.Sub.nil))))) ?_
      refine Kw.WC_seq (fun K20 hK20 => ?_)
      refine Kw.WC_region [some 27, some 7, none] rfl ?_
      refine Kw.WL_v rfl rfl rfl (F.R_bz72) ?_
      refine Kw.WL_alloc rfl rfl F.zr72 ?_; intro g7 w21 N_g7
      have L_g2_g7 := N_g7.ne A_g2; replace A_g2 := N_g7.keep A_g2
      have L_g4_g7 := N_g7.ne A_g4; replace A_g4 := N_g7.keep A_g4
      have A_g7 : Kw.At w21 g7 F.Z72 72 := N_g7.at_
      have G_g7 := N_g7.ge HB (Nat.le_refl _); replace HB := N_g7.below HB (Nat.le_refl _); clear N_g7
      refine Kw.WL_storeW rfl rfl rfl (by exact F.sz72) A_g7 rfl rfl ?_; intro w22 M_g7
      replace A_g2 := M_g7.keep A_g2 (Nat.ne_of_lt L_g2_g7)
      replace A_g4 := M_g7.keep A_g4 (Nat.ne_of_lt L_g4_g7)
      replace A_g7 : Kw.At w22 g7 F.Z72 72 := M_g7.at_ A_g7
      replace HB := M_g7.below HB G_g7; clear M_g7
      replace A_g7 : Kw.At w22 g7 (rCells W 0) 72 := A_g7
      refine Kw.WL_nil ?_
      refine hK20 _ _ ?_; clear hK20 K20
      refine Kw.WC_seq (fun K23 hK23 => ?_)
      refine Kw.WC_seq (fun K24 hK24 => ?_)
      refine Kw.WC_region [some 8] rfl ?_
      refine Kw.WL_v rfl rfl rfl (Kw.R_assign rfl) ?_
      refine Kw.WL_nil ?_
      refine hK24 _ _ ?_; clear hK24 K24
      refine Kw.WC_block ?_
      refine Kw.WC_loop (ι := Nat) (fun (i : Nat) (ww : World) => (i ≤ numsN k) ∧ Kw.At ww g2 F.Z35 35 ∧ Kw.At ww g4 cur4 9 ∧ Kw.At ww g7 #[.int .i64 (pr W i 0), .int .i64 (pr W i 1), .int .i64 (pr W i 2)] 72 ∧ Below w.heap.size w ww) (fun (i : Nat) => [(0, .string s), (2, .pointer (some ⟨g2, 0, none⟩)), (4, .slice (some ⟨g4, 0, none⟩) ((W ++ [[], [], [], []]).length) cap4), (5, .int .i64 (k : Int)), (6, .int .i64 (numsN k : Int)), (7, .pointer (some ⟨g7, 0, none⟩)), (8, .int .i64 (i : Int))]) (fun (i : Nat) => numsN k - i) 0 ⟨Nat.zero_le _, A_g2, A_g4, A_g7, HB⟩ (Kw.Sub.cons rfl (Kw.Sub.cons rfl (Kw.Sub.cons rfl (Kw.Sub.cons rfl (Kw.Sub.cons rfl (Kw.Sub.cons rfl (Kw.Sub.cons rfl Kw.Sub.nil))))))) ?_
      clear A_g2
      clear A_g4
      clear A_g7
      clear HB
      rintro i w25 ⟨hi, A_g2, A_g4, A_g7, HB⟩
      refine Kw.WC_seq (fun K26 hK26 => ?_)
      refine Kw.WC_seq (fun K27 hK27 => ?_)
      refine Kw.WC_region [some 28, some 29, some 30] rfl ?_
      refine Kw.WL_v rfl rfl rfl (Kw.R_move rfl) ?_
      refine Kw.WL_v rfl rfl rfl (Kw.R_move rfl) ?_
      by_cases c28 : (i : Int) < (numsN k : Int)
      ·
        refine Kw.WL_v rfl rfl rfl (Kw.R_lss (z := true) rfl rfl (decide_eq_true c28)) ?_
        refine Kw.WL_nil ?_
        refine hK27 _ _ ?_; clear hK27 K27
        refine Kw.WC_true rfl ?_
        refine Kw.WC_skip ?_
        refine hK26 _ _ ?_; clear hK26 K26
        refine Kw.WC_seq (fun K29 hK29 => ?_)
        refine Kw.WC_block ?_
        refine Kw.WC_region [some 33, some 34, some 35, some 36, some 37, some 38, some 39, some 40, none] rfl ?_
        refine Kw.WL_v rfl rfl rfl (Kw.R_move rfl) ?_
        refine Kw.WL_v rfl rfl rfl (Kw.R_move rfl) ?_
        refine Kw.WL_v rfl rfl rfl (Kw.R_move rfl) ?_
        refine Kw.WL_v rfl rfl rfl (Kw.R_add (c := ((1 + i : Nat) : Int)) rfl rfl (by rw [Kw.wrap_i64 (by omega)]; omega)) ?_
        refine Kw.WL_v rfl rfl rfl (Kw.R_indexAddrS (i := (1 + i : Nat)) (o' := (1 + i : Nat)) rfl rfl Tryd.underlying61 F.sz9 ((by omega)) (by omega)) ?_
        refine Kw.WL_v rfl rfl rfl (Kw.R_load1 (v := .string (bA (W.getD (1 + i) []))) rfl Tryd.underlying9 rfl A_g4 (by have := words_at h44 rfl (show 1 + i < _ by omega); rw [getD_pad] at this; exact this)) ?_
        refine Kw.WL_callc rfl rfl rfl rfl F.cl35 rfl (number_w (W.getD (1 + i) []) (Nat.le_trans (getD_le hWw _) (by omega)) w25) ?_; intro ww hww; rw [hww]; clear hww ww
        refine Kw.WL_v rfl rfl rfl (Kw.R_indexAddrA (i := i) (o' := i) rfl rfl Tryd.underlying72 F.sz3 (by omega) (by omega)) ?_
        refine Kw.WL_store1 (ds := #[.int .i64 (pr W (i + 1) 0), .int .i64 (pr W (i + 1) 1), .int .i64 (pr W (i + 1) 2)]) rfl rfl rfl F.sz3 A_g7 (by show i < 3; omega) rfl rfl (rCells_set W (by omega)) ?_; intro w30 M_g7
        replace A_g2 := M_g7.keep A_g2 (Nat.ne_of_lt L_g2_g7)
        replace A_g4 := M_g7.keep A_g4 (Nat.ne_of_lt L_g4_g7)
        replace A_g7 : Kw.At w30 g7 #[.int .i64 (pr W (i + 1) 0), .int .i64 (pr W (i + 1) 1), .int .i64 (pr W (i + 1) 2)] 72 := M_g7.at_ A_g7
        replace HB := M_g7.below HB G_g7; clear M_g7
        refine Kw.WL_nil ?_
        refine Kw.QN_block ?_
        refine hK29 _ _ ?_; clear hK29 K29
        refine Kw.WC_sub (l' := [(0, .string s), (2, .pointer (some ⟨g2, 0, none⟩)), (4, .slice (some ⟨g4, 0, none⟩) ((W ++ [[], [], [], []]).length) cap4), (5, .int .i64 (k : Int)), (6, .int .i64 (numsN k : Int)), (7, .pointer (some ⟨g7, 0, none⟩)), (8, .int .i64 (i : Int))]) (Kw.Sub.cons rfl (Kw.Sub.cons rfl (Kw.Sub.cons rfl (Kw.Sub.cons rfl (Kw.Sub.cons rfl (Kw.Sub.cons rfl (Kw.Sub.cons rfl Kw.Sub.nil))))))) ?_
        refine Kw.WC_region [some 31, some 32, some 8] rfl ?_
        refine Kw.WL_v rfl rfl rfl (Kw.R_move rfl) ?_
        refine Kw.WL_v rfl rfl rfl (Kw.R_add (c := ((i + 1 : Nat) : Int)) rfl rfl (by rw [Kw.wrap_i64 (by omega)]; omega)) ?_
        refine Kw.WL_v rfl rfl rfl (Kw.R_assign rfl) ?_
        refine Kw.WL_nil ?_
        refine Kw.QN_round (i + 1) ⟨by omega, A_g2, A_g4, A_g7, HB⟩ (by omega) (Kw.Sub.cons rfl (Kw.Sub.cons rfl (Kw.Sub.cons rfl (Kw.Sub.cons rfl (Kw.Sub.cons rfl (Kw.Sub.cons rfl (Kw.Sub.cons rfl Kw.Sub.nil)))))))
      ·
        refine Kw.WL_v rfl rfl rfl (Kw.R_lss (z := false) rfl rfl (decide_eq_false c28)) ?_
        obtain rfl : i = (numsN k) := by omega
        refine Kw.WL_nil ?_
        refine hK27 _ _ ?_; clear hK27 K27
        refine Kw.WC_false rfl ?_
        refine Kw.WC_exit ?_
        refine Kw.QE_then ?_; clear hK26 K26
        refine Kw.QE_then ?_
        refine Kw.QE_here ?_
        refine hK23 _ _ ?_; clear hK23 K23
        refine Kw.WC_seq (fun K31 hK31 => ?_)
        refine Kw.WC_region [some 41, some 42, some 43, some 44, some 45, some 46, some 47, some 48, some 9, none] rfl ?_
        refine Kw.WL_v rfl rfl rfl (Kw.R_move rfl) ?_
        refine Kw.WL_v rfl rfl rfl (Kw.R_indexAddrA (i := 0) (o' := 0) rfl rfl Tryd.underlying72 F.sz3 (by decide) (rfl)) ?_
        refine Kw.WL_v rfl rfl rfl (Kw.R_load1 (v := .int .i64 (pr W (numsN k) 0)) rfl Tryd.underlying3 rfl A_g7 rfl) ?_
        refine Kw.WL_v rfl rfl rfl (Kw.R_indexAddrA (i := 1) (o' := 1) rfl rfl Tryd.underlying72 F.sz3 (by decide) (rfl)) ?_
        refine Kw.WL_v rfl rfl rfl (Kw.R_load1 (v := .int .i64 (pr W (numsN k) 1)) rfl Tryd.underlying3 rfl A_g7 rfl) ?_
        refine Kw.WL_v rfl rfl rfl (Kw.R_indexAddrA (i := 2) (o' := 2) rfl rfl Tryd.underlying72 F.sz3 (by decide) (rfl)) ?_
        refine Kw.WL_v rfl rfl rfl (Kw.R_load1 (v := .int .i64 (pr W (numsN k) 2)) rfl Tryd.underlying3 rfl A_g7 rfl) ?_
        refine Kw.WL_v rfl rfl rfl (Kw.R_build (cs := #[.int .i64 (k : Int), .int .i64 (pr W (numsN k) 0), .int .i64 (pr W (numsN k) 1), .int .i64 (pr W (numsN k) 2), .string ⟨#[]⟩]) rfl (fun w => by kernel_rfl)) ?_
        refine Kw.WL_alloc rfl rfl F.zr35 ?_; intro g9 w32 N_g9
        have L_g2_g9 := N_g9.ne A_g2; replace A_g2 := N_g9.keep A_g2
        have L_g4_g9 := N_g9.ne A_g4; replace A_g4 := N_g9.keep A_g4
        have L_g7_g9 := N_g9.ne A_g7; replace A_g7 := N_g9.keep A_g7
        have A_g9 : Kw.At w32 g9 F.Z35 35 := N_g9.at_
        have G_g9 := N_g9.ge HB (Nat.le_refl _); replace HB := N_g9.below HB (Nat.le_refl _); clear N_g9
        refine Kw.WL_storeW rfl rfl rfl (by exact F.sz35) A_g9 rfl rfl ?_; intro w33 M_g9
        replace A_g2 := M_g9.keep A_g2 (Nat.ne_of_lt L_g2_g9)
        replace A_g4 := M_g9.keep A_g4 (Nat.ne_of_lt L_g4_g9)
        replace A_g7 := M_g9.keep A_g7 (Nat.ne_of_lt L_g7_g9)
        replace A_g9 : Kw.At w33 g9 #[.int .i64 (k : Int), .int .i64 (pr W (numsN k) 0), .int .i64 (pr W (numsN k) 1), .int .i64 (pr W (numsN k) 2), .string ⟨#[]⟩] 35 := M_g9.at_ A_g9
        replace HB := M_g9.below HB G_g9; clear M_g9
        refine Kw.WL_nil ?_
        refine hK31 _ _ ?_; clear hK31 K31
        refine Kw.WC_sub (l' := [(0, .string s), (2, .pointer (some ⟨g2, 0, none⟩)), (4, .slice (some ⟨g4, 0, none⟩) ((W ++ [[], [], [], []]).length) cap4), (5, .int .i64 (k : Int)), (6, .int .i64 (numsN k : Int)), (9, .pointer (some ⟨g9, 0, none⟩))]) (Kw.Sub.cons rfl (Kw.Sub.cons rfl (Kw.Sub.cons rfl (Kw.Sub.cons rfl (Kw.Sub.cons rfl (Kw.Sub.cons rfl Kw.Sub.nil)))))) ?_
        refine Kw.WC_seq (fun K34 hK34 => ?_)
        refine Kw.WC_seq (fun K35 hK35 => ?_)
        refine Kw.WC_region [some 49, some 50] rfl ?_
        obtain ⟨tx, htx⟩ : ∃ z, txtB k = z := ⟨_, rfl⟩
        refine Kw.WL_v rfl rfl rfl (Kw.R_move rfl) ?_
        refine Kw.WL_callc rfl rfl rfl rfl F.cl32 rfl ((by have := texts_c (k : Int) w33; rw [hke.2.2, htx] at this; exact this)) ?_; intro ww hww; rw [hww]; clear hww ww
        refine Kw.WL_nil ?_
        refine hK35 _ _ ?_; clear hK35 K35
        refine Kw.WC_cond rfl (fun q36 => ?_) (fun q36 => ?_)
        ·
          subst q36
          refine Kw.WC_region [some 51, some 52, some 53, some 54, some 55, some 56, some 57, none] rfl ?_
          refine Kw.WL_v rfl rfl rfl (Kw.R_move rfl) ?_
          refine Kw.WL_v rfl rfl rfl (Kw.R_move rfl) ?_
          refine Kw.WL_v rfl rfl rfl (Kw.R_add (c := ((1 + numsN k : Nat) : Int)) rfl rfl (by rw [Kw.wrap_i64 (by omega)]; omega)) ?_
          refine Kw.WL_v rfl rfl rfl (Kw.R_indexAddrS (i := (1 + numsN k : Nat)) (o' := (1 + numsN k : Nat)) rfl rfl Tryd.underlying61 F.sz9 ((by omega)) (by omega)) ?_
          refine Kw.WL_v rfl rfl rfl (Kw.R_load1 (v := .string (bA (W.getD (1 + numsN k) []))) rfl Tryd.underlying9 rfl A_g4 (by have := words_at h44 rfl (show 1 + numsN k < _ by omega); rw [getD_pad] at this; exact this)) ?_
          refine Kw.WL_callc rfl rfl rfl rfl F.cl36 rfl (read_w (W.getD (1 + numsN k) []) (Nat.le_trans (getD_le hWw _) (by omega)) w33) ?_; intro w37 bw37
          replace A_g2 := A_g2.call bw37
          replace A_g4 := A_g4.call bw37
          replace A_g7 := A_g7.call bw37
          replace A_g9 := A_g9.call bw37
          replace HB := Kw.Below.then HB (Nat.le_refl _) bw37
          clear bw37
          refine Kw.WL_v rfl rfl rfl (Kw.R_fieldAddr (o' := 4) (k := 0) rfl Tryd.underlying35 rfl F.sz9 rfl) ?_
          refine Kw.WL_store1 (ds := #[.int .i64 (k : Int), .int .i64 (pr W (numsN k) 0), .int .i64 (pr W (numsN k) 1), .int .i64 (pr W (numsN k) 2), .string (bA (readL (W.getD (1 + numsN k) []).tail))]) rfl rfl rfl F.sz9 A_g9 (by show 4 < 5; decide) rfl rfl (rfl) ?_; intro w38 M_g9
          replace A_g2 := M_g9.keep A_g2 (Nat.ne_of_lt L_g2_g9)
          replace A_g4 := M_g9.keep A_g4 (Nat.ne_of_lt L_g4_g9)
          replace A_g7 := M_g9.keep A_g7 (Nat.ne_of_lt L_g7_g9)
          replace A_g9 : Kw.At w38 g9 #[.int .i64 (k : Int), .int .i64 (pr W (numsN k) 0), .int .i64 (pr W (numsN k) 1), .int .i64 (pr W (numsN k) 2), .string (bA (readL (W.getD (1 + numsN k) []).tail))] 35 := M_g9.at_ A_g9
          replace HB := M_g9.below HB G_g9; clear M_g9
          refine Kw.WL_nil ?_
          refine hK34 _ _ ?_; clear hK34 K34
          refine Kw.WC_sub (l' := [(0, .string s), (2, .pointer (some ⟨g2, 0, none⟩)), (9, .pointer (some ⟨g9, 0, none⟩))]) (Kw.Sub.cons rfl (Kw.Sub.cons rfl (Kw.Sub.cons rfl Kw.Sub.nil))) ?_
          refine Kw.WC_seq (fun K39 hK39 => ?_)
          obtain ⟨X, hX⟩ : ∃ X : Stp, X = ⟨(k : Int), pr W (numsN k) 0, pr W (numsN k) 1, pr W (numsN k) 2, (bA (readL (W.getD (1 + numsN k) []).tail))⟩ := ⟨_, rfl⟩
          have oX : okS X := by rw [hX]; exact ⟨by unfold i64; dsimp only; omega, pr_i64 _ _ _, pr_i64 _ _ _, pr_i64 _ _ _⟩
          have tX : X.t.size ≤ 10000000 := by rw [hX]; dsimp only; rw [bA_size, readL_len, List.length_tail]; have := getD_le hWw (1 + numsN k); omega
          have sX : rstepX k W = X := by rw [hX]; unfold rstepX; rw [htx]; rfl
          have hF := rstepF_hit (s := s.data.toList) (k := k) (X := X) (by rw [← hW]; exact hFk) (by rw [← hW]; exact sX)
          replace A_g9 : Kw.At w38 g9 (stpCells X) 35 := by rw [hX]; exact A_g9
          refine Kw.WC_sched (fun ww => Kw.At ww g9 (stpCells X) 35 ∧ True) [(0, true), (1, true), (3, true), (4, true), (2, false), (5, true), (6, false), (7, true)] [some 58, some 59, some 60, some 61, some 62, some 63, none, some 3] rfl (by kernel_rfl) rfl (by kernel_rfl) ?_
          obtain ⟨w40, hww40⟩ : ∃ x : World, x = Go.World.drew w38 := ⟨_, rfl⟩
          rw [← hww40]
          replace A_g2 : Kw.At w40 g2 F.Z35 35 := by rw [hww40]; exact A_g2
          replace A_g4 : Kw.At w40 g4 cur4 9 := by rw [hww40]; exact A_g4
          replace A_g7 : Kw.At w40 g7 #[.int .i64 (pr W (numsN k) 0), .int .i64 (pr W (numsN k) 1), .int .i64 (pr W (numsN k) 2)] 72 := by rw [hww40]; exact A_g7
          replace A_g9 : Kw.At w40 g9 (stpCells X) 35 := by rw [hww40]; exact A_g9
          replace HB : Below w.heap.size w w40 := by rw [hww40]; exact HB.drew
          clear hww40
          have hS : Kw.At w40 g9 (stpCells X) 35 ∧ True := ⟨A_g9, trivial⟩
          refine Kw.WX_take rfl rfl rfl rfl (fun _ _ _ h => h) hS (fun _ ⟨A_g9, _⟩ => Kw.R_loadW rfl Tryd.underlying35 rfl (by exact F.sz35) A_g9) ?_
          refine Kw.WX_take rfl rfl rfl rfl (fun _ _ _ h => h) hS (fun _ ⟨A_g9, _⟩ => Kw.R_loadW rfl Tryd.underlying35 rfl (by exact F.sz35) A_g9) ?_
          refine Kw.WX_take rfl rfl rfl rfl (fun _ _ _ h => h) hS (fun _ ⟨A_g9, _⟩ => Kw.R_move rfl) ?_
          refine Kw.WX_take rfl rfl rfl rfl (fun _ _ _ h => h) hS (fun _ ⟨A_g9, _⟩ => Kw.R_adds (r := (bA (s.data.toList ++ [10]))) rfl rfl (by show _ + 1 ≤ _; omega) (s_nl s)) ?_
          refine Kw.WX_callc rfl rfl rfl rfl rfl F.cl19 rfl (rline_c X oX tX w40) ?_; intro w41 bw41
          clear hS
          replace A_g2 := A_g2.call bw41
          replace A_g4 := A_g4.call bw41
          replace A_g7 := A_g7.call bw41
          replace A_g9 := A_g9.call bw41
          replace HB := Kw.Below.then HB (Nat.le_refl _) bw41
          have hS : Kw.At w41 g9 (stpCells X) 35 ∧ True := ⟨A_g9, trivial⟩
          clear bw41
          refine ⟨hS, ?_⟩
          obtain ⟨zz, hzz⟩ : ∃ z : Bool, decide ((bA (lineL X)) = (bA (s.data.toList ++ [10]))) = z := ⟨_, rfl⟩
          refine Kw.WX_take rfl rfl rfl rfl (fun _ _ _ h => h) hS (fun _ ⟨A_g9, _⟩ => Kw.R_eqs rfl rfl hzz) ?_
          refine WX_storeW rfl rfl rfl rfl (by exact F.sz35) A_g2 rfl rfl ?_; intro w42 M_g2
          replace A_g4 := M_g2.keep A_g4 (Ne.symm NE_g2_g4)
          replace A_g7 := M_g2.keep A_g7 (Nat.ne_of_gt L_g2_g7)
          replace A_g9 := M_g2.keep A_g9 (Nat.ne_of_gt L_g2_g9)
          replace A_g2 : Kw.At w42 g2 (stpCells X) 35 := M_g2.at_ A_g2
          replace HB := M_g2.below HB G_g2; clear M_g2
          clear hS; have hS : Kw.At w42 g9 (stpCells X) 35 ∧ True := ⟨A_g9, trivial⟩
          refine ⟨hS, ?_⟩
          refine Kw.WX_take rfl rfl rfl rfl (fun _ _ _ h => h) hS (fun _ ⟨A_g9, _⟩ => Kw.R_assign rfl) ?_
          refine Kw.WX_nil ?_
          clear hS
          refine hK39 _ _ ?_; clear hK39 K39
          refine Kw.WC_sub (l' := [(2, .pointer (some ⟨g2, 0, none⟩)), (3, .bool zz)]) (Kw.Sub.cons rfl (Kw.Sub.cons rfl Kw.Sub.nil)) ?_
          refine Kw.WC_ret ?_
          refine Kw.QR_block ?_
          refine Kw.QR_then ?_; clear hK11 K11
          refine Kw.QR_then ?_
          refine Kw.QR_block ?_
          refine Kw.QR_then ?_; clear hK5 K5
          exact Kw.post_ret2 rfl (Kw.RV_row rfl Tryd.underlying35 rfl (by exact F.sz35) A_g2) rfl ⟨by rw [hF, dec_bA hzz], HB⟩
        ·
          subst q36
          refine Kw.WC_skip ?_
          refine hK34 _ _ ?_; clear hK34 K34
          refine Kw.WC_seq (fun K43 hK43 => ?_)
          obtain ⟨X, hX⟩ : ∃ X : Stp, X = ⟨(k : Int), pr W (numsN k) 0, pr W (numsN k) 1, pr W (numsN k) 2, ⟨#[]⟩⟩ := ⟨_, rfl⟩
          have oX : okS X := by rw [hX]; exact ⟨by unfold i64; dsimp only; omega, pr_i64 _ _ _, pr_i64 _ _ _, pr_i64 _ _ _⟩
          have tX : X.t.size ≤ 10000000 := by rw [hX]; dsimp only; (show 0 ≤ _; omega)
          have sX : rstepX k W = X := by rw [hX]; unfold rstepX; rw [htx]; rfl
          have hF := rstepF_hit (s := s.data.toList) (k := k) (X := X) (by rw [← hW]; exact hFk) (by rw [← hW]; exact sX)
          replace A_g9 : Kw.At w33 g9 (stpCells X) 35 := by rw [hX]; exact A_g9
          refine Kw.WC_sched (fun ww => Kw.At ww g9 (stpCells X) 35 ∧ True) [(0, true), (1, true), (3, true), (4, true), (2, false), (5, true), (6, false), (7, true)] [some 58, some 59, some 60, some 61, some 62, some 63, none, some 3] rfl (by kernel_rfl) rfl (by kernel_rfl) ?_
          obtain ⟨w44, hww44⟩ : ∃ x : World, x = Go.World.drew w33 := ⟨_, rfl⟩
          rw [← hww44]
          replace A_g2 : Kw.At w44 g2 F.Z35 35 := by rw [hww44]; exact A_g2
          replace A_g4 : Kw.At w44 g4 cur4 9 := by rw [hww44]; exact A_g4
          replace A_g7 : Kw.At w44 g7 #[.int .i64 (pr W (numsN k) 0), .int .i64 (pr W (numsN k) 1), .int .i64 (pr W (numsN k) 2)] 72 := by rw [hww44]; exact A_g7
          replace A_g9 : Kw.At w44 g9 (stpCells X) 35 := by rw [hww44]; exact A_g9
          replace HB : Below w.heap.size w w44 := by rw [hww44]; exact HB.drew
          clear hww44
          have hS : Kw.At w44 g9 (stpCells X) 35 ∧ True := ⟨A_g9, trivial⟩
          refine Kw.WX_take rfl rfl rfl rfl (fun _ _ _ h => h) hS (fun _ ⟨A_g9, _⟩ => Kw.R_loadW rfl Tryd.underlying35 rfl (by exact F.sz35) A_g9) ?_
          refine Kw.WX_take rfl rfl rfl rfl (fun _ _ _ h => h) hS (fun _ ⟨A_g9, _⟩ => Kw.R_loadW rfl Tryd.underlying35 rfl (by exact F.sz35) A_g9) ?_
          refine Kw.WX_take rfl rfl rfl rfl (fun _ _ _ h => h) hS (fun _ ⟨A_g9, _⟩ => Kw.R_move rfl) ?_
          refine Kw.WX_take rfl rfl rfl rfl (fun _ _ _ h => h) hS (fun _ ⟨A_g9, _⟩ => Kw.R_adds (r := (bA (s.data.toList ++ [10]))) rfl rfl (by show _ + 1 ≤ _; omega) (s_nl s)) ?_
          refine Kw.WX_callc rfl rfl rfl rfl rfl F.cl19 rfl (rline_c X oX tX w44) ?_; intro w45 bw45
          clear hS
          replace A_g2 := A_g2.call bw45
          replace A_g4 := A_g4.call bw45
          replace A_g7 := A_g7.call bw45
          replace A_g9 := A_g9.call bw45
          replace HB := Kw.Below.then HB (Nat.le_refl _) bw45
          have hS : Kw.At w45 g9 (stpCells X) 35 ∧ True := ⟨A_g9, trivial⟩
          clear bw45
          refine ⟨hS, ?_⟩
          obtain ⟨zz, hzz⟩ : ∃ z : Bool, decide ((bA (lineL X)) = (bA (s.data.toList ++ [10]))) = z := ⟨_, rfl⟩
          refine Kw.WX_take rfl rfl rfl rfl (fun _ _ _ h => h) hS (fun _ ⟨A_g9, _⟩ => Kw.R_eqs rfl rfl hzz) ?_
          refine WX_storeW rfl rfl rfl rfl (by exact F.sz35) A_g2 rfl rfl ?_; intro w46 M_g2
          replace A_g4 := M_g2.keep A_g4 (Ne.symm NE_g2_g4)
          replace A_g7 := M_g2.keep A_g7 (Nat.ne_of_gt L_g2_g7)
          replace A_g9 := M_g2.keep A_g9 (Nat.ne_of_gt L_g2_g9)
          replace A_g2 : Kw.At w46 g2 (stpCells X) 35 := M_g2.at_ A_g2
          replace HB := M_g2.below HB G_g2; clear M_g2
          clear hS; have hS : Kw.At w46 g9 (stpCells X) 35 ∧ True := ⟨A_g9, trivial⟩
          refine ⟨hS, ?_⟩
          refine Kw.WX_take rfl rfl rfl rfl (fun _ _ _ h => h) hS (fun _ ⟨A_g9, _⟩ => Kw.R_assign rfl) ?_
          refine Kw.WX_nil ?_
          clear hS
          refine hK43 _ _ ?_; clear hK43 K43
          refine Kw.WC_sub (l' := [(2, .pointer (some ⟨g2, 0, none⟩)), (3, .bool zz)]) (Kw.Sub.cons rfl (Kw.Sub.cons rfl Kw.Sub.nil)) ?_
          refine Kw.WC_ret ?_
          refine Kw.QR_block ?_
          refine Kw.QR_then ?_; clear hK11 K11
          refine Kw.QR_then ?_
          refine Kw.QR_block ?_
          refine Kw.QR_then ?_; clear hK5 K5
          exact Kw.post_ret2 rfl (Kw.RV_row rfl Tryd.underlying35 rfl (by exact F.sz35) A_g2) rfl ⟨by rw [hF, dec_bA hzz], HB⟩
    ·
      refine Kw.WX_take rfl rfl rfl rfl (fun _ _ _ h => h) hS (fun _ ⟨A_g9, _⟩ => Kw.R_nes (z := true) rfl rfl (decide_eq_false cw)) ?_
      have hne : wordL k ≠ W.getD 0 [] := fun e => cw (congrArg bA e)
      refine Kw.WX_nil ?_
      clear hS
      refine hK13 _ _ ?_; clear hK13 K13
      refine Kw.WC_sub (l' := [(0, .string s), (2, .pointer (some ⟨g2, 0, none⟩)), (4, .slice (some ⟨gv, 0, none⟩) W.length capv), (5, .int .i64 (k : Int)), (21, .bool true)]) (Kw.Sub.cons rfl (Kw.Sub.cons rfl (Kw.Sub.cons rfl (Kw.Sub.cons rfl (Kw.Sub.cons rfl Kw.Sub.nil))))) ?_
      refine Kw.WC_true rfl ?_
      refine Kw.WC_exit ?_
      refine Kw.QE_then ?_; clear hK12 K12
      refine Kw.QE_here ?_
      refine hK11 _ _ ?_; clear hK11 K11
      refine Kw.WC_region [some 14, some 15, some 5] rfl ?_
      refine Kw.WL_v rfl rfl rfl (Kw.R_move rfl) ?_
      refine Kw.WL_v rfl rfl rfl (Kw.R_add (c := ((k + 1 : Nat) : Int)) rfl rfl (by rw [Kw.wrap_i64 (by omega)]; omega)) ?_
      refine Kw.WL_v rfl rfl rfl (Kw.R_assign rfl) ?_
      refine Kw.WL_nil ?_
      refine Kw.QN_round (k + 1) ⟨⟨by omega, by omega, by rw [hinv]; exact findK_step (by omega) hne⟩, A_g2, A_gv, HB⟩ (by omega) (Kw.Sub.cons rfl (Kw.Sub.cons rfl (Kw.Sub.cons rfl (Kw.Sub.cons rfl Kw.Sub.nil))))
  ·
    refine Kw.WL_v rfl rfl rfl (Kw.R_leq (z := false) rfl rfl (decide_eq_false c10)) ?_
    obtain rfl : k = 14 := by omega
    have hF := rstepF_none (s := s.data.toList) (by rw [← hW, hinv]; rfl)
    refine Kw.WL_nil ?_
    refine hK9 _ _ ?_; clear hK9 K9
    refine Kw.WC_false rfl ?_
    refine Kw.WC_exit ?_
    refine Kw.QE_then ?_; clear hK8 K8
    refine Kw.QE_then ?_
    refine Kw.QE_here ?_
    refine hK5 _ _ ?_; clear hK5 K5
    refine Kw.WC_seq (fun K47 hK47 => ?_)
    refine Kw.WC_region [some 64, none, some 3] rfl ?_
    refine Kw.WL_v rfl rfl rfl (F.R_bz35) ?_
    refine Kw.WL_storeW rfl rfl rfl (by exact F.sz35) A_g2 rfl rfl ?_; intro w48 M_g2
    replace A_gv := M_g2.keep A_gv (Nat.ne_of_gt L_g2_gv)
    replace A_g2 : Kw.At w48 g2 F.Z35 35 := M_g2.at_ A_g2
    replace HB := M_g2.below HB G_g2; clear M_g2
    refine Kw.WL_v rfl rfl rfl (Kw.R_assign rfl) ?_
    refine Kw.WL_nil ?_
    refine hK47 _ _ ?_; clear hK47 K47
    refine Kw.WC_sub (l' := [(2, .pointer (some ⟨g2, 0, none⟩)), (3, .bool false)]) (Kw.Sub.cons rfl (Kw.Sub.cons rfl Kw.Sub.nil)) ?_
    refine Kw.WC_ret ?_
    exact Kw.post_ret2 rfl (Kw.RV_row rfl Tryd.underlying35 rfl (by exact F.sz35) A_g2) rfl ⟨by rw [hF]; rfl, HB⟩
theorem rstepF_ok {s : List UInt8} (h : (rstepF s).2 = true) : lineL (rstepF s).1 = s ++ [10] ∧ okS (rstepF s).1 := by
  unfold rstepF at h ⊢
  split at h
  · cases h
  · rename_i k hk
    have hk13 := findK_le hk
    exact ⟨by simpa using h, by show i64 (k : Int); unfold i64; omega, pr_i64 _ _ _, pr_i64 _ _ _, pr_i64 _ _ _⟩
theorem rstepF_body {x : Stp} (hg : good x) (h : okS x) : rstepF (bodyL x) = (normS x, true) := by
  have hs : splitL 32 (bodyL x) = wordsOf x := by
    unfold bodyL; rw [words_cons]; exact split_join _ _ (by rw [← words_cons]; exact words_clean h)
  obtain ⟨k, hk⟩ : ∃ k : Nat, x.kind = k := ⟨x.kind.toNat, by have := hg.1; omega⟩
  have hk1 : 1 ≤ k ∧ k ≤ 13 := by have := hg.1; have := hg.2; omega
  have hkn : x.kind.toNat = k := by omega
  have hw0 : (wordsOf x).getD 0 [] = wordL k := by rw [words_cons, hkn]; rfl
  have hn3 := numsN_le k
  have hget : ∀ i (hi : i < numsN k), (wordsOf x).getD (1 + i) [] = itoaL (abc x.a x.b x.c i) := by
    intro i hi
    have hil : i < (numsOf x).length := by rw [numsOf_len, hkn]; exact hi
    rw [words_cons, List.getD_eq_getElem?_getD, Nat.add_comm, List.getElem?_cons_succ, List.getElem?_append_left (by rw [List.length_map]; exact hil), List.getElem?_map]
    have : (numsOf x)[i]? = some (abc x.a x.b x.c i) := by
      unfold numsOf
      rw [List.getElem?_take, hkn, if_pos hi]
      have : i = 0 ∨ i = 1 ∨ i = 2 := by omega
      rcases this with rfl | rfl | rfl <;> rfl
    rw [this]; rfl
  have hpr : ∀ i, i < 3 → pr (wordsOf x) (numsN k) i = if i < numsN k then abc x.a x.b x.c i else 0 := by
    intro i hi3
    unfold pr
    split
    · rename_i hh
      have ha := abc_i64 h.2.1 h.2.2.1 h.2.2.2 i
      rw [hget i hh, itoaL_eq ha, numR_itoa ha]
    · rfl
  have hX : rstepX k (wordsOf x) = normS x := by
    unfold rstepX normS
    rw [hkn, hpr 0 (by omega), hpr 1 (by omega), hpr 2 (by omega), hk]
    congr 1
    by_cases ht : txtB k = true
    · rw [if_pos ht, if_pos ht]
      have : (wordsOf x).getD (1 + numsN k) [] = hexL x.t.data.toList := by
        rw [words_cons, hkn, ht, List.getD_eq_getElem?_getD, Nat.add_comm, List.getElem?_cons_succ, List.getElem?_append_right (by rw [List.length_map, numsOf_len, hkn]; omega), List.length_map, numsOf_len, hkn, Nat.sub_self]; rfl
      rw [this, read_hex]; exact bytes_back _
    · rw [if_neg ht, if_neg ht]
  have hF := rstepF_hit (s := bodyL x) (k := k) (X := normS x) (by rw [hs, hw0]; exact findK_word k hk1.1 hk1.2) (by rw [hs]; exact hX)
  rw [hF, line_norm]
  have : lineL x = bodyL x ++ [10] := by unfold lineL bodyL; rw [if_pos hg]
  rw [decide_eq_true this]
theorem body_of {x : Stp} {s : List UInt8} (h : lineL x = s ++ [10]) : good x ∧ s = bodyL x := by
  have hg : good x := by
    by_cases e : good x
    · exact e
    · unfold lineL at h; rw [if_neg e] at h
      exact absurd (congrArg List.length h) (by simp)
  refine ⟨hg, ?_⟩
  have h2 : lineL x = bodyL x ++ [10] := by unfold lineL bodyL; rw [if_pos hg]
  exact (List.append_cancel_right (h2.symm.trans h)).symm
theorem step_same (s : List UInt8) : (stepF s).2 = (rstepF s).2 ∧ ((stepF s).2 = true → (stepF s).1 = (rstepF s).1) := by
  have key : (stepF s).2 = true → (rstepF s) = stepF s := fun h => by
    obtain ⟨h1, h2, _⟩ := stepF_ok h
    obtain ⟨hg, hs⟩ := body_of h1
    have e1 := stepF_body hg h2
    have e2 := rstepF_body hg h2
    rw [← hs] at e1 e2
    rw [e1, e2]
  have key2 : (rstepF s).2 = true → (stepF s).2 = true := fun h => by
    obtain ⟨h1, h2⟩ := rstepF_ok h
    obtain ⟨hg, hs⟩ := body_of h1
    rw [hs, stepF_body hg h2]
  refine ⟨?_, fun h => by rw [key h]⟩
  cases e : (stepF s).2 with
  | true => rw [key e, e]
  | false =>
    cases e2 : (rstepF s).2 with
    | true => rw [key2 e2] at e; cases e
    | false => rfl
def getG : Nat → List UInt8 → Nat → List Stp → List Stp × Nat × Nat
  | 0, _, _, acc => (acc, 0, 0)
  | f + 1, s, line, acc => if s = [] then (acc, 0, 0) else
    if (cutL 10 s).2.2 = true ∧ (rstepF (cutL 10 s).1).2 = true then getG f (cutL 10 s).2.1 (line + 1) (acc ++ [(rstepF (cutL 10 s).1).1]) else ([], line, 10)
theorem getG_s (f : Nat) (s : List UInt8) (line : Nat) (acc : List Stp) : getG (f + 1) s line acc = if s = [] then (acc, 0, 0) else
    if (cutL 10 s).2.2 = true ∧ (rstepF (cutL 10 s).1).2 = true then getG f (cutL 10 s).2.1 (line + 1) (acc ++ [(rstepF (cutL 10 s).1).1]) else ([], line, 10) := rfl
theorem getG_F : ∀ (f : Nat) (s : List UInt8) (j : Nat) (acc : List Stp), getG f s (j + 1) acc = getF f s j acc
  | 0, _, _, _ => rfl
  | f + 1, s, j, acc => by
    rw [getG_s, getF_s]
    by_cases hs : s = []
    · rw [if_pos hs, if_pos hs]
    · rw [if_neg hs, if_neg hs]
      obtain ⟨h1, h2⟩ := step_same (cutL 10 s).1
      by_cases hc : (stepF (cutL 10 s).1).2 = true ∧ (cutL 10 s).2.2 = true
      · rw [if_pos hc, if_pos ⟨hc.2, by rw [← h1]; exact hc.1⟩, h2 hc.1, getG_F]
      · rw [if_neg hc, if_neg (fun h => hc ⟨by rw [h1]; exact h.2, h.1⟩)]
theorem getG_L (s : List UInt8) : getG s.length s 1 [] = getL s := getG_F s.length s 0 []
theorem cut_none : ∀ w : List UInt8, (∀ x ∈ w, x ≠ 10) → cutL 10 w = (w, [], false)
  | [], _ => rfl
  | b :: w, h => by
    rw [cutL_cons, if_neg (h b List.mem_cons_self), cut_none w (fun x hx => h x (List.mem_cons_of_mem _ hx))]
theorem getG_hit {f : Nat} {s : List UInt8} {j : Nat} {acc : List Stp} {one rest : List UInt8} {X : Stp} (h1 : cutL 10 s = (one, rest, true)) (h4 : (rstepF one).1 = X) (h5 : (rstepF one).2 = true) (hs : s ≠ []) :
    getG (f + 1) s j acc = getG f rest (j + 1) (acc ++ [X]) := by
  rw [getG_s, if_neg hs, h1, if_pos ⟨rfl, h5⟩, h4]
theorem getG_bad {f : Nat} {s : List UInt8} {j : Nat} {acc : List Stp} {one rest : List UInt8} (h1 : cutL 10 s = (one, rest, true)) (h5 : (rstepF one).2 = false) (hs : s ≠ []) :
    getG (f + 1) s j acc = ([], j, 10) := by
  rw [getG_s, if_neg hs, h1, if_neg (fun h => by rw [h5] at h; exact absurd h.2 (by decide))]
theorem getG_left {f : Nat} {s : List UInt8} {j : Nat} {acc : List Stp} (h1 : ∀ x ∈ s, x ≠ 10) (hs : s ≠ []) (hf : s.length ≤ f) :
    getG f s j acc = ([], j, 10) := by
  cases f with
  | zero => exact absurd (List.eq_nil_of_length_eq_zero (by omega)) hs
  | succ f => rw [getG_s, if_neg hs, cut_none s h1, if_neg (fun h => absurd h.1 Bool.false_ne_true)]
theorem getG_end {f : Nat} {j : Nat} {acc : List Stp} : getG f [] j acc = (acc, 0, 0) := by
  cases f with
  | zero => rfl
  | succ f => rw [getG_s, if_pos rfl]
theorem drop_split {l : List UInt8} {fr i : Nat} (h1 : fr ≤ i) (h2 : i < l.length) : l.drop fr = (l.drop fr).take (i - fr) ++ (l[i]'h2) :: l.drop (i + 1) := by
  conv => lhs; rw [← List.take_append_drop (i - fr) (l.drop fr), List.drop_drop, show fr + (i - fr) = i by omega, List.drop_eq_getElem_cons h2]
theorem mem_mid {l : List UInt8} {fr i : Nat} (h : ∀ j (hj : j < l.length), fr ≤ j → j < i → l[j]'hj ≠ 10) : ∀ x ∈ (l.drop fr).take (i - fr), x ≠ 10 := by
  intro x hx
  obtain ⟨j, hj, rfl⟩ := List.getElem_of_mem hx
  rw [List.length_take, List.length_drop] at hj
  rw [List.getElem_take, List.getElem_drop]
  exact h (fr + j) (by omega) (by omega) (by omega)
theorem ex_mid (s : ByteArray) {fr i : Nat} (h : fr ≤ i) : s.extract fr i = bA ((s.data.toList.drop fr).take (i - fr)) := by
  apply ByteArray.ext
  apply Array.toList_inj.1
  rw [ByteArray.data_extract, Array.toList_extract]
  simp [List.extract, bA]
theorem rstep_w (l : List UInt8) (hs : l.length ≤ 1000000) (w : World) : Calls Tryd.prog 20 #[.string (bA l)] w fun e w' => e = .returned (.tuple #[.agg (stpCells (rstepF l).1), .bool (rstepF l).2]) ∧ Below w.heap.size w w' := by
  have := rstep_c (bA l) (by rw [bA_size]; exact hs) w
  rw [bA_back] at this; exact this

set_option maxRecDepth 100000 in
set_option maxHeartbeats 4000000 in
theorem rget_c (s : ByteArray) (hs : s.size ≤ 1000000) (w : World) : Calls Tryd.prog 12 #[.string s] w (Kw.Back fun v w' => (∃ lv, v = .tuple #[lv, .int .i64 ((getL s.data.toList).2.1 : Int), .int .i64 ((getL s.data.toList).2.2 : Int)] ∧ Kw.Own w' w.heap.size 35 5 lv (getL s.data.toList).1.length (stpsV (getL s.data.toList).1)) ∧ Below w.heap.size w w') := by
  have HB : Below w.heap.size w w := Below.refl _ _
  rw [← getG_L]
  have hsz := size_list s
  refine Kw.enter Tryd.func12 rfl Tryd.ntmps12 rfl rfl ?_
  refine Kw.WC_seq (fun K1 hK1 => ?_)
  refine Kw.WC_region [some 2, some 3, some 4] rfl ?_
  refine Kw.WL_v rfl rfl rfl (Kw.R_assign rfl) ?_
  refine Kw.WL_v rfl rfl rfl (Kw.R_assign rfl) ?_
  refine Kw.WL_v rfl rfl rfl (Kw.R_assign rfl) ?_
  refine Kw.WL_nil ?_
  refine hK1 _ _ ?_; clear hK1 K1
  refine Kw.WC_seq (fun K2 hK2 => ?_)
  refine Kw.WC_region [some 5] rfl ?_
  refine Kw.WL_v rfl rfl rfl (Kw.R_assign rfl) ?_
  refine Kw.WL_nil ?_
  refine hK2 _ _ ?_; clear hK2 K2
  refine Kw.WC_seq (fun K3 hK3 => ?_)
  refine Kw.WC_region [some 6, some 7] rfl ?_
  refine Kw.WL_v rfl rfl rfl (Kw.R_assign rfl) ?_
  refine Kw.WL_v rfl rfl rfl (Kw.R_assign rfl) ?_
  refine Kw.WL_nil ?_
  refine hK3 _ _ ?_; clear hK3 K3
  refine Kw.WC_seq (fun K4 hK4 => ?_)
  refine Kw.WC_seq (fun K5 hK5 => ?_)
  refine Kw.WC_region [some 8] rfl ?_
  refine Kw.WL_v rfl rfl rfl (Kw.R_assign rfl) ?_
  refine Kw.WL_nil ?_
  refine hK5 _ _ ?_; clear hK5 K5
  refine Kw.WC_block ?_
  refine Kw.WC_loop (ι := Nat × Nat × Nat × Nat × List Stp × Value) (fun (q : Nat × Nat × Nat × Nat × List Stp × Value) (ww : World) => match q with | ⟨i, fr, f, ln, acc, v⟩ => (i ≤ s.data.toList.length ∧ fr ≤ i ∧ (∀ j (hj : j < s.data.toList.length), fr ≤ j → j < i → s.data.toList[j]'hj ≠ 10) ∧ getG s.data.toList.length s.data.toList 1 [] = getG f (s.data.toList.drop fr) ln acc ∧ (s.data.toList.drop fr).length ≤ f ∧ ln ≤ fr + 1 ∧ acc.length ≤ fr) ∧ Kw.Own ww w.heap.size 35 5 v acc.length (stpsV acc) ∧ Below w.heap.size w ww) (fun (q : Nat × Nat × Nat × Nat × List Stp × Value) => match q with | ⟨i, fr, f, ln, acc, v⟩ => [(0, .string s), (5, v), (6, .int .i64 (ln : Int)), (7, .int .i64 (fr : Int)), (8, .int .i64 (i : Int))]) (fun (q : Nat × Nat × Nat × Nat × List Stp × Value) => match q with | ⟨i, fr, f, ln, acc, v⟩ => s.data.toList.length - i) (0, 0, s.data.toList.length, 1, [], .slice none 0 0) ⟨⟨Nat.zero_le _, Nat.le_refl _, fun j _ _ h => absurd h (Nat.not_lt_zero _), rfl, Nat.le_refl _, Nat.le_refl _, Nat.le_refl _⟩, Kw.Own.nil _ _ _ _, HB⟩ (Kw.Sub.cons rfl (Kw.Sub.cons rfl (Kw.Sub.cons rfl (Kw.Sub.cons rfl (Kw.Sub.cons rfl Kw.Sub.nil))))) ?_
  clear HB
  rintro ⟨i, fr, f, ln, acc, v⟩ w6 ⟨⟨hi, hfr, hno, hG, hf1, hf2, hf3⟩, O_v, HB⟩
  dsimp only at *
  refine Kw.WC_seq (fun K7 hK7 => ?_)
  refine Kw.WC_seq (fun K8 hK8 => ?_)
  refine Kw.WC_region [some 11, some 12, some 13, some 14] rfl ?_
  refine Kw.WL_v rfl rfl rfl (Kw.R_move rfl) ?_
  refine Kw.WL_v rfl rfl rfl (Kw.R_move rfl) ?_
  refine Kw.WL_v rfl rfl rfl (Kw.R_lens Tryd.underlying9 rfl) ?_
  by_cases c9 : (i : Int) < (s.size : Int)
  ·
    refine Kw.WL_v rfl rfl rfl (Kw.R_lss (z := true) rfl rfl (decide_eq_true c9)) ?_
    have hi3 : i < s.data.toList.length := by omega
    obtain ⟨y, hy⟩ : ∃ y, y = s.data.toList[i]'hi3 := ⟨_, rfl⟩
    refine Kw.WL_nil ?_
    refine hK8 _ _ ?_; clear hK8 K8
    refine Kw.WC_true rfl ?_
    refine Kw.WC_skip ?_
    refine hK7 _ _ ?_; clear hK7 K7
    refine Kw.WC_seq (fun K10 hK10 => ?_)
    refine Kw.WC_block ?_
    refine Kw.WC_seq (fun K11 hK11 => ?_)
    refine Kw.WC_seq (fun K12 hK12 => ?_)
    refine Kw.WC_region [some 17, some 18, some 19, some 20] rfl ?_
    refine Kw.WL_v rfl rfl rfl (Kw.R_move rfl) ?_
    refine Kw.WL_v rfl rfl rfl (Kw.R_move rfl) ?_
    refine Kw.WL_v rfl rfl rfl (Kw.R_indexb (i := i) (c := ((y.toNat : Nat) : Int)) Tryd.underlying9 rfl rfl (by omega) (by rw [byt_list s i hi3, ← hy])) ?_
    by_cases cy : ((y.toNat : Nat) : Int) = 10
    ·
      refine Kw.WL_v rfl rfl rfl (Kw.R_nei (z := false) rfl rfl (decide_eq_true cy)) ?_
      have hy10 : y = 10 := UInt8.toNat_inj.1 (by have : (10 : UInt8).toNat = 10 := rfl; omega)
      obtain ⟨one, hone⟩ : ∃ x, (s.data.toList.drop fr).take (i - fr) = x := ⟨_, rfl⟩
      have hds := drop_split hfr hi3; rw [← hy, hy10, hone] at hds
      have hcl := mem_mid hno; rw [hone] at hcl
      have hcut : cutL 10 (s.data.toList.drop fr) = (one, s.data.toList.drop (i + 1), true) := by rw [hds]; exact cut_clean _ _ hcl
      have hne : s.data.toList.drop fr ≠ [] := by rw [hds]; simp
      have hol : one.length ≤ s.data.toList.length := by rw [← hone, List.length_take, List.length_drop]; omega
      have hdl := List.length_drop (i := fr) (l := s.data.toList)
      obtain ⟨f', rfl⟩ : ∃ x, f = x + 1 := ⟨f - 1, by omega⟩
      obtain ⟨X, hX⟩ : ∃ x, (rstepF one).1 = x := ⟨_, rfl⟩
      obtain ⟨okb, hok⟩ : ∃ x, (rstepF one).2 = x := ⟨_, rfl⟩
      refine Kw.WL_nil ?_
      refine hK12 _ _ ?_; clear hK12 K12
      refine Kw.WC_sub (l' := [(0, .string s), (5, v), (6, .int .i64 (ln : Int)), (7, .int .i64 (fr : Int)), (8, .int .i64 (i : Int)), (20, .bool false)]) (Kw.Sub.cons rfl (Kw.Sub.cons rfl (Kw.Sub.cons rfl (Kw.Sub.cons rfl (Kw.Sub.cons rfl (Kw.Sub.cons rfl Kw.Sub.nil)))))) ?_
      refine Kw.WC_false rfl ?_
      refine Kw.WC_skip ?_
      refine hK11 _ _ ?_; clear hK11 K11
      refine Kw.WC_seq (fun K13 hK13 => ?_)
      refine Kw.WC_region [some 22, some 23, some 24, some 25, some 26, some 21, some 27, some 28, some 9, none, some 10] rfl ?_
      refine Kw.WL_v rfl rfl rfl (Kw.R_move rfl) ?_
      refine Kw.WL_v rfl rfl rfl (Kw.R_move rfl) ?_
      refine Kw.WL_v rfl rfl rfl (Kw.R_move rfl) ?_
      refine Kw.WL_v rfl rfl rfl (Kw.R_slices (i := fr) (j := i) (r := (bA one)) Tryd.underlying9 rfl ⟨_, rfl⟩ ⟨_, rfl⟩ (by omega) (by omega) (by rw [ex_mid s hfr, hone])) ?_
      refine Kw.WL_callc rfl rfl rfl rfl F.cl20 rfl ((by have := rstep_w one (by omega) w6; rw [hX, hok] at this; exact this)) ?_; intro w14 bw14
      replace HB := Kw.Below.then HB (Nat.le_refl _) bw14
      replace O_v := O_v.call bw14
      clear bw14
      refine Kw.WL_v rfl rfl rfl (Kw.R_move rfl) ?_
      refine Kw.WL_v rfl rfl rfl (Kw.R_extract (v := .agg (stpCells X)) rfl rfl) ?_
      refine Kw.WL_v rfl rfl rfl (Kw.R_extract (v := .bool okb) rfl rfl) ?_
      refine Kw.WL_alloc rfl rfl F.zr35 ?_; intro g9 w15 N_g9
      have A_g9 : Kw.At w15 g9 F.Z35 35 := N_g9.at_
      have D_v_g9 := O_v.ne_new N_g9; replace O_v := O_v.new N_g9
      have G_g9 := N_g9.ge HB (Nat.le_refl _); replace HB := N_g9.below HB (Nat.le_refl _); clear N_g9
      refine Kw.WL_storeW rfl rfl rfl (by exact F.sz35) A_g9 rfl rfl ?_; intro w16 M_g9
      replace A_g9 : Kw.At w16 g9 (stpCells X) 35 := M_g9.at_ A_g9
      replace O_v := O_v.wrote M_g9 D_v_g9
      replace HB := M_g9.below HB G_g9; clear M_g9
      refine Kw.WL_v rfl rfl rfl (Kw.R_assign rfl) ?_
      refine Kw.WL_nil ?_
      refine hK13 _ _ ?_; clear hK13 K13
      refine Kw.WC_sub (l' := [(0, .string s), (5, v), (6, .int .i64 (ln : Int)), (8, .int .i64 (i : Int)), (9, .pointer (some ⟨g9, 0, none⟩)), (10, .bool okb)]) (Kw.Sub.cons rfl (Kw.Sub.cons rfl (Kw.Sub.cons rfl (Kw.Sub.cons rfl (Kw.Sub.cons rfl (Kw.Sub.cons rfl Kw.Sub.nil)))))) ?_
      refine Kw.WC_seq (fun K17 hK17 => ?_)
      refine Kw.WC_seq (fun K18 hK18 => ?_)
      refine Kw.WC_region [some 29, some 30] rfl ?_
      cases okb
      ·
        have hR := hG.trans (getG_bad hcut hok hne)
        refine Kw.WL_v rfl rfl rfl (Kw.R_move rfl) ?_
        refine Kw.WL_v rfl rfl rfl (Kw.R_not rfl rfl) ?_
        refine Kw.WL_nil ?_
        refine hK18 _ _ ?_; clear hK18 K18
        refine Kw.WC_true rfl ?_
        refine Kw.WC_seq (fun K19 hK19 => ?_)
        refine Kw.WC_region [some 31, some 2, some 3, some 4] rfl ?_
        refine Kw.WL_v rfl rfl rfl (Kw.R_move rfl) ?_
        refine Kw.WL_v rfl rfl rfl (Kw.R_assign rfl) ?_
        refine Kw.WL_v rfl rfl rfl (Kw.R_assign rfl) ?_
        refine Kw.WL_v rfl rfl rfl (Kw.R_assign rfl) ?_
        refine Kw.WL_nil ?_
        refine hK19 _ _ ?_; clear hK19 K19
        refine Kw.WC_sub (l' := [(2, .slice none 0 0), (3, .int .i64 (ln : Int)), (4, .int .i64 10)]) (Kw.Sub.cons rfl (Kw.Sub.cons rfl (Kw.Sub.cons rfl Kw.Sub.nil))) ?_
        refine Kw.WC_ret ?_
        refine Kw.QR_then ?_; clear hK17 K17
        refine Kw.QR_block ?_
        refine Kw.QR_then ?_; clear hK10 K10
        refine Kw.QR_then ?_
        refine Kw.QR_block ?_
        refine Kw.QR_then ?_; clear hK4 K4
        exact Kw.post_ret3 rfl rfl rfl rfl ⟨_, rfl, ⟨⟨_, by rw [hR]; rfl, by rw [hR]; exact Kw.Own.nil _ _ _ _⟩, HB⟩⟩
      ·
        refine Kw.WL_v rfl rfl rfl (Kw.R_move rfl) ?_
        refine Kw.WL_v rfl rfl rfl (Kw.R_not rfl rfl) ?_
        refine Kw.WL_nil ?_
        refine hK18 _ _ ?_; clear hK18 K18
        refine Kw.WC_false rfl ?_
        refine Kw.WC_skip ?_
        refine hK17 _ _ ?_; clear hK17 K17
        refine Kw.WC_seq (fun K20 hK20 => ?_)
        refine Kw.WC_region [some 32, some 33, some 34, some 35, some 5] rfl ?_
        refine Kw.WL_v rfl rfl rfl (Kw.R_move rfl) ?_
        refine Kw.WL_v rfl rfl rfl (Kw.R_loadW rfl Tryd.underlying35 rfl (by exact F.sz35) A_g9) ?_
        obtain ⟨gy, w21, N_gy⟩ : ∃ b_ w2_, Kw.Newb w16 b_ (stpCells X) 35 w2_ := ⟨_, _, rfl, rfl⟩
        refine Kw.WL_v rfl rfl rfl (Kw.R_buildSlice rfl (fun w => by kernel_rfl) N_gy) ?_
        have L_g9_gy := N_gy.ne A_g9; replace A_g9 := N_gy.keep A_g9
        have A_gy : Kw.At w21 gy (stpCells X) 35 := N_gy.at_
        have D_v_gy := O_v.ne_new N_gy; replace O_v := O_v.new N_gy
        have G_gy := N_gy.ge HB (Nat.le_refl _); replace HB := N_gy.below HB (Nat.le_refl _); clear N_gy
        refine Kw.WL_append rfl rfl rfl rfl Tryd.underlying34 Tryd.underlying34 (.inr ⟨_, rfl⟩) F.sz35 F.by35 F.ze35 rfl O_v (Kw.News.row (news := (stpCells X).toList) A_gy rfl rfl (by simp [Value.oneCell', stpCells])) (by unfold maxLen; omega) (by omega) HB.size ?_; intro v35 w22 O_v35 R_v35
        have D_v35_g9 := R_v35.ne A_g9 D_v_g9
        replace A_g9 := R_v35.keep A_g9 D_v_g9
        have D_v35_gy := R_v35.ne A_gy D_v_gy
        replace A_gy := R_v35.keep A_gy D_v_gy
        replace HB := R_v35.below HB (Nat.le_refl _) (fun g hg => O_v.ge hg); clear R_v35
        replace O_v35 : Kw.Own w22 w.heap.size 35 5 v35 ((acc ++ [X]).length) (stpsV (acc ++ [X])) := by rw [stpsV_app, stpsV_one, List.length_append]; exact O_v35
        clear O_v
        clear A_gy
        refine Kw.WL_v rfl rfl rfl (Kw.R_assign rfl) ?_
        refine Kw.WL_nil ?_
        refine hK20 _ _ ?_; clear hK20 K20
        refine Kw.WC_sub (l' := [(0, .string s), (5, v35), (6, .int .i64 (ln : Int)), (8, .int .i64 (i : Int))]) (Kw.Sub.cons rfl (Kw.Sub.cons rfl (Kw.Sub.cons rfl (Kw.Sub.cons rfl Kw.Sub.nil)))) ?_
        refine Kw.WC_region [some 36, some 37, some 38, some 39, some 6, some 7] rfl ?_
        refine Kw.WL_v rfl rfl rfl (Kw.R_move rfl) ?_
        refine Kw.WL_v rfl rfl rfl (Kw.R_add (c := ((ln + 1 : Nat) : Int)) rfl rfl (by rw [Kw.wrap_i64 (by omega)]; omega)) ?_
        refine Kw.WL_v rfl rfl rfl (Kw.R_move rfl) ?_
        refine Kw.WL_v rfl rfl rfl (Kw.R_add (c := ((i + 1 : Nat) : Int)) rfl rfl (by rw [Kw.wrap_i64 (by omega)]; omega)) ?_
        refine Kw.WL_v rfl rfl rfl (Kw.R_assign rfl) ?_
        refine Kw.WL_v rfl rfl rfl (Kw.R_assign rfl) ?_
        refine Kw.WL_nil ?_
        refine Kw.QN_block ?_
        refine hK10 _ _ ?_; clear hK10 K10
        refine Kw.WC_region [some 15, some 16, some 8] rfl ?_
        refine Kw.WL_v rfl rfl rfl (Kw.R_move rfl) ?_
        refine Kw.WL_v rfl rfl rfl (Kw.R_add (c := ((i + 1 : Nat) : Int)) rfl rfl (by rw [Kw.wrap_i64 (by omega)]; omega)) ?_
        refine Kw.WL_v rfl rfl rfl (Kw.R_assign rfl) ?_
        refine Kw.WL_nil ?_
        refine Kw.QN_round ((i + 1, i + 1, f', ln + 1, acc ++ [X], v35)) ⟨⟨by (try dsimp only); omega, Nat.le_refl _, by
            intro j hj h1 h2
            (try dsimp only at h1 h2)
            omega, hG.trans (getG_hit hcut hX hok hne), by (try dsimp only); rw [List.length_drop]; omega, by (try dsimp only); omega, by (try dsimp only); rw [List.length_append, List.length_singleton]; omega⟩, O_v35, HB⟩ (by dsimp only; omega) (Kw.Sub.cons rfl (Kw.Sub.cons rfl (Kw.Sub.cons rfl (Kw.Sub.cons rfl (Kw.Sub.cons rfl Kw.Sub.nil)))))
    ·
      refine Kw.WL_v rfl rfl rfl (Kw.R_nei (z := true) rfl rfl (decide_eq_false cy)) ?_
      have hyn : y ≠ 10 := fun e => cy (by rw [e]; rfl)
      refine Kw.WL_nil ?_
      refine hK12 _ _ ?_; clear hK12 K12
      refine Kw.WC_sub (l' := [(0, .string s), (5, v), (6, .int .i64 (ln : Int)), (7, .int .i64 (fr : Int)), (8, .int .i64 (i : Int)), (20, .bool true)]) (Kw.Sub.cons rfl (Kw.Sub.cons rfl (Kw.Sub.cons rfl (Kw.Sub.cons rfl (Kw.Sub.cons rfl (Kw.Sub.cons rfl Kw.Sub.nil)))))) ?_
      refine Kw.WC_true rfl ?_
      refine Kw.WC_exit ?_
      refine Kw.QE_then ?_; clear hK11 K11
      refine Kw.QE_here ?_
      refine hK10 _ _ ?_; clear hK10 K10
      refine Kw.WC_region [some 15, some 16, some 8] rfl ?_
      refine Kw.WL_v rfl rfl rfl (Kw.R_move rfl) ?_
      refine Kw.WL_v rfl rfl rfl (Kw.R_add (c := ((i + 1 : Nat) : Int)) rfl rfl (by rw [Kw.wrap_i64 (by omega)]; omega)) ?_
      refine Kw.WL_v rfl rfl rfl (Kw.R_assign rfl) ?_
      refine Kw.WL_nil ?_
      refine Kw.QN_round ((i + 1, fr, f, ln, acc, v)) ⟨⟨by (try dsimp only); omega, by (try dsimp only); omega, by
          (try dsimp only)
          intro j hj h1 h2
          rcases Nat.lt_or_ge j i with h | h
          · exact hno j hj h1 h
          · obtain rfl : j = i := by omega
            rw [← hy]; exact hyn, hG, hf1, hf2, hf3⟩, O_v, HB⟩ (by dsimp only; omega) (Kw.Sub.cons rfl (Kw.Sub.cons rfl (Kw.Sub.cons rfl (Kw.Sub.cons rfl (Kw.Sub.cons rfl Kw.Sub.nil)))))
  ·
    refine Kw.WL_v rfl rfl rfl (Kw.R_lss (z := false) rfl rfl (decide_eq_false c9)) ?_
    obtain rfl : i = s.data.toList.length := by omega
    refine Kw.WL_nil ?_
    refine hK8 _ _ ?_; clear hK8 K8
    refine Kw.WC_false rfl ?_
    refine Kw.WC_exit ?_
    refine Kw.QE_then ?_; clear hK7 K7
    refine Kw.QE_then ?_
    refine Kw.QE_here ?_
    refine hK4 _ _ ?_; clear hK4 K4
    refine Kw.WC_seq (fun K23 hK23 => ?_)
    refine Kw.WC_seq (fun K24 hK24 => ?_)
    refine Kw.WC_region [some 40, some 41, some 42, some 43] rfl ?_
    refine Kw.WL_v rfl rfl rfl (Kw.R_move rfl) ?_
    refine Kw.WL_v rfl rfl rfl (Kw.R_move rfl) ?_
    refine Kw.WL_v rfl rfl rfl (Kw.R_lens Tryd.underlying9 rfl) ?_
    by_cases c25 : (fr : Int) < (s.size : Int)
    ·
      refine Kw.WL_v rfl rfl rfl (Kw.R_lss (z := true) rfl rfl (decide_eq_true c25)) ?_
      have hR := hG.trans (getG_left (fun x hx => mem_mid hno x (by rw [List.take_of_length_le (by rw [List.length_drop]; omega)]; exact hx)) (fun e => by have := congrArg List.length e; rw [List.length_drop, List.length_nil] at this; omega) hf1)
      refine Kw.WL_nil ?_
      refine hK24 _ _ ?_; clear hK24 K24
      refine Kw.WC_sub (l' := [(5, v), (6, .int .i64 (ln : Int)), (43, .bool true)]) (Kw.Sub.cons rfl (Kw.Sub.cons rfl (Kw.Sub.cons rfl Kw.Sub.nil))) ?_
      refine Kw.WC_true rfl ?_
      refine Kw.WC_seq (fun K26 hK26 => ?_)
      refine Kw.WC_region [some 44, some 2, some 3, some 4] rfl ?_
      refine Kw.WL_v rfl rfl rfl (Kw.R_move rfl) ?_
      refine Kw.WL_v rfl rfl rfl (Kw.R_assign rfl) ?_
      refine Kw.WL_v rfl rfl rfl (Kw.R_assign rfl) ?_
      refine Kw.WL_v rfl rfl rfl (Kw.R_assign rfl) ?_
      refine Kw.WL_nil ?_
      refine hK26 _ _ ?_; clear hK26 K26
      refine Kw.WC_ret ?_
      refine Kw.QR_then ?_; clear hK23 K23
      exact Kw.post_ret3 rfl rfl rfl rfl ⟨_, rfl, ⟨⟨_, by rw [hR]; rfl, by rw [hR]; exact Kw.Own.nil _ _ _ _⟩, HB⟩⟩
    ·
      refine Kw.WL_v rfl rfl rfl (Kw.R_lss (z := false) rfl rfl (decide_eq_false c25)) ?_
      have hR := hG.trans ((congrArg (fun z => getG f z ln acc) (List.drop_of_length_le (by omega))).trans getG_end)
      refine Kw.WL_nil ?_
      refine hK24 _ _ ?_; clear hK24 K24
      refine Kw.WC_sub (l' := [(5, v), (6, .int .i64 (ln : Int)), (43, .bool false)]) (Kw.Sub.cons rfl (Kw.Sub.cons rfl (Kw.Sub.cons rfl Kw.Sub.nil))) ?_
      refine Kw.WC_false rfl ?_
      refine Kw.WC_skip ?_
      refine hK23 _ _ ?_; clear hK23 K23
      refine Kw.WC_seq (fun K27 hK27 => ?_)
      refine Kw.WC_region [some 45, some 2, some 3, some 4] rfl ?_
      refine Kw.WL_v rfl rfl rfl (Kw.R_move rfl) ?_
      refine Kw.WL_v rfl rfl rfl (Kw.R_assign rfl) ?_
      refine Kw.WL_v rfl rfl rfl (Kw.R_assign rfl) ?_
      refine Kw.WL_v rfl rfl rfl (Kw.R_assign rfl) ?_
      refine Kw.WL_nil ?_
      refine hK27 _ _ ?_; clear hK27 K27
      refine Kw.WC_ret ?_
      exact Kw.post_ret3 rfl rfl rfl rfl ⟨_, rfl, ⟨⟨v, by rw [hR]; rfl, by rw [hR]; exact O_v⟩, HB⟩⟩

set_option maxRecDepth 100000 in
set_option maxHeartbeats 4000000 in
theorem rput_c (v : Value) (l : List Stp) (hl : okL l) (hn : l.length ≤ 1000000) (hp : (putL l).length ≤ 1000000000) (w : World) (hv : Steps w v l) : Calls Tryd.prog 13 #[v] w fun e w' => e = .returned (.string (bA (putL l))) ∧ Below w.heap.size w w' := by
  have HB : Below w.heap.size w w := Below.refl _ _
  obtain ⟨p, c, rfl, hv⟩ := hv
  refine Kw.enter Tryd.func13 rfl Tryd.ntmps13 rfl rfl ?_
  refine Kw.WC_seq (fun K1 hK1 => ?_)
  refine Kw.WC_region [some 2] rfl ?_
  refine Kw.WL_v rfl rfl rfl (Kw.R_assign rfl) ?_
  refine Kw.WL_nil ?_
  refine hK1 _ _ ?_; clear hK1 K1
  refine Kw.WC_seq (fun K2 hK2 => ?_)
  refine Kw.WC_region [some 3] rfl ?_
  refine Kw.WL_v rfl rfl rfl (Kw.R_assign rfl) ?_
  refine Kw.WL_nil ?_
  refine hK2 _ _ ?_; clear hK2 K2
  refine Kw.WC_seq (fun K3 hK3 => ?_)
  refine Kw.WC_seq (fun K4 hK4 => ?_)
  refine Kw.WC_region [some 4] rfl ?_
  refine Kw.WL_v rfl rfl rfl (Kw.R_assign rfl) ?_
  refine Kw.WL_nil ?_
  refine hK4 _ _ ?_; clear hK4 K4
  refine Kw.WC_block ?_
  refine Kw.WC_loop (ι := Nat) (fun (i : Nat) (ww : World) => (i ≤ l.length) ∧ Below w.heap.size w ww) (fun (i : Nat) => [(0, .slice p l.length c), (3, .string (bA (putL (l.take i)))), (4, .int .i64 (i : Int))]) (fun (i : Nat) => l.length - i) 0 ⟨Nat.zero_le _, HB⟩ (Kw.Sub.cons rfl (Kw.Sub.cons rfl (Kw.Sub.cons rfl Kw.Sub.nil))) ?_
  clear HB
  rintro i w5 ⟨hi, HB⟩
  refine Kw.WC_seq (fun K6 hK6 => ?_)
  refine Kw.WC_seq (fun K7 hK7 => ?_)
  refine Kw.WC_region [some 5, some 6, some 7, some 8] rfl ?_
  refine Kw.WL_v rfl rfl rfl (Kw.R_move rfl) ?_
  refine Kw.WL_v rfl rfl rfl (Kw.R_move rfl) ?_
  refine Kw.WL_v rfl rfl rfl (Kw.R_lenl Tryd.underlying34 rfl) ?_
  by_cases c8 : (i : Int) < (l.length : Int)
  ·
    refine Kw.WL_v rfl rfl rfl (Kw.R_lss (z := true) rfl rfl (decide_eq_true c8)) ?_
    have hil : i < l.length := by omega
    obtain ⟨gq, oq, rfl, hgq, hcq⟩ := hv.resolve_left (fun h => by rw [h] at hil; exact absurd hil (Nat.not_lt_zero _))
    obtain ⟨x, hx⟩ : ∃ x, x = l[i]'hil := ⟨_, rfl⟩
    have hcx := hcq i hil; rw [← hx] at hcx
    have hxl := hl x (by rw [hx]; exact List.getElem_mem hil)
    have htk : l.take (i + 1) = l.take i ++ [x] := by rw [take_snocL hil, ← hx]
    have hpl := putL_take_le l (i + 1); rw [htk, putL_snoc, List.length_append] at hpl
    refine Kw.WL_nil ?_
    refine hK7 _ _ ?_; clear hK7 K7
    refine Kw.WC_true rfl ?_
    refine Kw.WC_skip ?_
    refine hK6 _ _ ?_; clear hK6 K6
    refine Kw.WC_seq (fun K9 hK9 => ?_)
    refine Kw.WC_block ?_
    refine Kw.WC_region [some 11, some 12, some 13, some 14, some 15, some 16, some 17, some 3] rfl ?_
    refine Kw.WL_v rfl rfl rfl (Kw.R_move rfl) ?_
    refine Kw.WL_v rfl rfl rfl (Kw.R_move rfl) ?_
    refine Kw.WL_v rfl rfl rfl (Kw.R_move rfl) ?_
    refine Kw.WL_v rfl rfl rfl (Kw.R_indexAddrS (i := i) (o' := oq + i * 5) rfl rfl Tryd.underlying34 F.sz35 (by omega) (by omega)) ?_
    refine Kw.WL_v rfl rfl rfl (Kw.R_loadcs (ds := stpCells x) rfl Tryd.underlying35 rfl (by exact F.sz35) (fun j u hu => (HB.cell (p := ⟨gq, oq + i * 5 + j, none⟩) hgq).trans (hcx j u hu))) ?_
    refine Kw.WL_callc rfl rfl rfl rfl F.cl19 rfl (rline_c x hxl.1 hxl.2 w5) ?_; intro w10 bw10
    replace HB := Kw.Below.then HB (Nat.le_refl _) bw10
    clear bw10
    refine Kw.WL_v rfl rfl rfl (Kw.R_adds (r := (bA (putL (l.take (i + 1))))) rfl rfl (by rw [bA_size, show (lineB x).size = (lineL x).length from bA_size _]; omega) (by rw [htk, putL_snoc]; exact bA_app _ _)) ?_
    refine Kw.WL_v rfl rfl rfl (Kw.R_assign rfl) ?_
    refine Kw.WL_nil ?_
    refine Kw.QN_block ?_
    refine hK9 _ _ ?_; clear hK9 K9
    refine Kw.WC_sub (l' := [(0, .slice (some ⟨gq, oq, none⟩) l.length c), (3, .string (bA (putL (l.take (i + 1))))), (4, .int .i64 (i : Int))]) (Kw.Sub.cons rfl (Kw.Sub.cons rfl (Kw.Sub.cons rfl Kw.Sub.nil))) ?_
    refine Kw.WC_region [some 9, some 10, some 4] rfl ?_
    refine Kw.WL_v rfl rfl rfl (Kw.R_move rfl) ?_
    refine Kw.WL_v rfl rfl rfl (Kw.R_add (c := ((i + 1 : Nat) : Int)) rfl rfl (by rw [Kw.wrap_i64 (by omega)]; omega)) ?_
    refine Kw.WL_v rfl rfl rfl (Kw.R_assign rfl) ?_
    refine Kw.WL_nil ?_
    refine Kw.QN_round (i + 1) ⟨by omega, HB⟩ (by omega) (Kw.Sub.cons rfl (Kw.Sub.cons rfl (Kw.Sub.cons rfl Kw.Sub.nil)))
  ·
    refine Kw.WL_v rfl rfl rfl (Kw.R_lss (z := false) rfl rfl (decide_eq_false c8)) ?_
    obtain rfl : i = l.length := by omega
    rw [List.take_length]
    refine Kw.WL_nil ?_
    refine hK7 _ _ ?_; clear hK7 K7
    refine Kw.WC_false rfl ?_
    refine Kw.WC_exit ?_
    refine Kw.QE_then ?_; clear hK6 K6
    refine Kw.QE_then ?_
    refine Kw.QE_here ?_
    refine hK3 _ _ ?_; clear hK3 K3
    refine Kw.WC_sub (l' := [(3, .string (bA (putL l)))]) (Kw.Sub.cons rfl Kw.Sub.nil) ?_
    refine Kw.WC_seq (fun K11 hK11 => ?_)
    refine Kw.WC_region [some 18, some 2] rfl ?_
    refine Kw.WL_v rfl rfl rfl (Kw.R_move rfl) ?_
    refine Kw.WL_v rfl rfl rfl (Kw.R_assign rfl) ?_
    refine Kw.WL_nil ?_
    refine hK11 _ _ ?_; clear hK11 K11
    refine Kw.WC_ret ?_
    exact Kw.post_ret1 rfl rfl ⟨rfl, HB⟩

set_option maxRecDepth 100000 in
set_option maxHeartbeats 4000000 in
theorem rsame_c (a b : Stp) (ha : okS a ∧ a.t.size ≤ 10000000) (hb : okS b ∧ b.t.size ≤ 10000000) (w : World) : Calls Tryd.prog 11 #[.agg (stpCells a), .agg (stpCells b)] w fun e w' => e = .returned (.bool (decide (lineL a ≠ [] ∧ lineL a = lineL b))) ∧ Below w.heap.size w w' := by
  have HB : Below w.heap.size w w := Below.refl _ _
  refine Kw.enter Tryd.func11 rfl Tryd.ntmps11 rfl rfl ?_
  refine Kw.WC_seq (fun K1 hK1 => ?_)
  refine Kw.WC_region [some 2, some 3, some 4] rfl ?_
  refine Kw.WL_box rfl rfl rfl ?_; intro ga w2 N_ga
  have A_ga : Kw.At w2 ga (stpCells a) 35 := N_ga.at_
  have G_ga := N_ga.ge HB (Nat.le_refl _); replace HB := N_ga.below HB (Nat.le_refl _); clear N_ga
  refine Kw.WL_box rfl rfl rfl ?_; intro gb w3 N_gb
  have L_ga_gb := N_gb.ne A_ga; replace A_ga := N_gb.keep A_ga
  have A_gb : Kw.At w3 gb (stpCells b) 35 := N_gb.at_
  have G_gb := N_gb.ge HB (Nat.le_refl _); replace HB := N_gb.below HB (Nat.le_refl _); clear N_gb
  refine Kw.WL_v rfl rfl rfl (Kw.R_assign rfl) ?_
  refine Kw.WL_nil ?_
  refine hK1 _ _ ?_; clear hK1 K1
  refine Kw.WC_seq (fun K4 hK4 => ?_)
  refine Kw.WC_sched (fun ww => Kw.At ww ga (stpCells a) 35 ∧ Kw.At ww gb (stpCells b) 35 ∧ True) [(0, true), (1, false), (2, true), (3, true), (4, true), (6, true), (5, false), (7, false), (8, true), (9, true), (10, true)] [some 5, some 6, some 7, some 8, some 9, some 10, some 11, some 12, some 13, some 14, some 4] rfl (by kernel_rfl) rfl (by kernel_rfl) ?_
  obtain ⟨w5, hww5⟩ : ∃ x : World, x = Go.World.drew w3 := ⟨_, rfl⟩
  rw [← hww5]
  replace A_ga : Kw.At w5 ga (stpCells a) 35 := by rw [hww5]; exact A_ga
  replace A_gb : Kw.At w5 gb (stpCells b) 35 := by rw [hww5]; exact A_gb
  replace HB : Below w.heap.size w w5 := by rw [hww5]; exact HB.drew
  clear hww5
  have hS : Kw.At w5 ga (stpCells a) 35 ∧ Kw.At w5 gb (stpCells b) 35 ∧ True := ⟨A_ga, A_gb, trivial⟩
  refine Kw.WX_take rfl rfl rfl rfl (fun _ _ _ h => h) hS (fun _ ⟨A_ga, A_gb, _⟩ => Kw.R_loadW rfl Tryd.underlying35 rfl (by exact F.sz35) A_ga) ?_
  refine Kw.WX_callc rfl rfl rfl rfl rfl F.cl19 rfl (rline_c a ha.1 ha.2 w5) ?_; intro w6 bw6
  clear hS
  replace A_ga := A_ga.call bw6
  replace A_gb := A_gb.call bw6
  replace HB := Kw.Below.then HB (Nat.le_refl _) bw6
  have hS : Kw.At w6 ga (stpCells a) 35 ∧ Kw.At w6 gb (stpCells b) 35 ∧ True := ⟨A_ga, A_gb, trivial⟩
  clear bw6
  refine ⟨hS, ?_⟩
  by_cases ce : bA (lineL a) = ⟨#[]⟩
  ·
    refine Kw.WX_take rfl rfl rfl rfl (fun _ _ _ h => h) hS (fun _ ⟨A_ga, A_gb, _⟩ => Kw.R_nes (z := false) rfl rfl (decide_eq_true ce)) ?_
    have hee := bA_nil ce
    refine Kw.WX_take rfl rfl rfl rfl (fun _ _ _ h => h) hS (fun _ ⟨A_ga, A_gb, _⟩ => Kw.R_move rfl) ?_
    refine Kw.WX_off rfl rfl rfl rfl (fun _ _ _ h => h) hS ?_
    refine Kw.WX_off rfl rfl rfl rfl (fun _ _ _ h => h) hS ?_
    refine WX_off1 rfl rfl rfl rfl hS ?_
    refine WX_off1 rfl rfl rfl rfl hS ?_
    refine Kw.WX_off rfl rfl rfl rfl (fun _ _ _ h => h) hS ?_
    refine Kw.WX_take rfl rfl rfl rfl (fun _ _ _ h => h) hS (fun _ ⟨A_ga, A_gb, _⟩ => Kw.R_pickf rfl rfl) ?_
    refine Kw.WX_take rfl rfl rfl rfl (fun _ _ _ h => h) hS (fun _ ⟨A_ga, A_gb, _⟩ => Kw.R_assign rfl) ?_
    refine Kw.WX_nil ?_
    clear hS
    refine hK4 _ _ ?_; clear hK4 K4
    refine Kw.WC_sub (l' := [(4, .bool false)]) (Kw.Sub.cons rfl Kw.Sub.nil) ?_
    refine Kw.WC_ret ?_
    exact Kw.post_ret1 rfl rfl ⟨by rw [decide_eq_false (fun h : lineL a ≠ [] ∧ lineL a = lineL b => h.1 hee)], HB⟩
  ·
    refine Kw.WX_take rfl rfl rfl rfl (fun _ _ _ h => h) hS (fun _ ⟨A_ga, A_gb, _⟩ => Kw.R_nes (z := true) rfl rfl (decide_eq_false ce)) ?_
    have hne : lineL a ≠ [] := fun h => ce (by rw [h]; rfl)
    refine Kw.WX_take rfl rfl rfl rfl (fun _ _ _ h => h) hS (fun _ ⟨A_ga, A_gb, _⟩ => Kw.R_move rfl) ?_
    refine Kw.WX_take rfl rfl rfl rfl (fun _ _ _ h => h) hS (fun _ ⟨A_ga, A_gb, _⟩ => Kw.R_loadW rfl Tryd.underlying35 rfl (by exact F.sz35) A_ga) ?_
    refine Kw.WX_take rfl rfl rfl rfl (fun _ _ _ h => h) hS (fun _ ⟨A_ga, A_gb, _⟩ => Kw.R_loadW rfl Tryd.underlying35 rfl (by exact F.sz35) A_gb) ?_
    refine Kw.WX_callc rfl rfl rfl rfl rfl F.cl19 rfl (rline_c a ha.1 ha.2 w6) ?_; intro w7 bw7
    clear hS
    replace A_ga := A_ga.call bw7
    replace A_gb := A_gb.call bw7
    replace HB := Kw.Below.then HB (Nat.le_refl _) bw7
    have hS : Kw.At w7 ga (stpCells a) 35 ∧ Kw.At w7 gb (stpCells b) 35 ∧ True := ⟨A_ga, A_gb, trivial⟩
    clear bw7
    refine ⟨hS, ?_⟩
    refine Kw.WX_callc rfl rfl rfl rfl rfl F.cl19 rfl (rline_c b hb.1 hb.2 w7) ?_; intro w8 bw8
    clear hS
    replace A_ga := A_ga.call bw8
    replace A_gb := A_gb.call bw8
    replace HB := Kw.Below.then HB (Nat.le_refl _) bw8
    have hS : Kw.At w8 ga (stpCells a) 35 ∧ Kw.At w8 gb (stpCells b) 35 ∧ True := ⟨A_ga, A_gb, trivial⟩
    clear bw8
    refine ⟨hS, ?_⟩
    obtain ⟨zz, hzz⟩ : ∃ z : Bool, decide ((bA (lineL a)) = (bA (lineL b))) = z := ⟨_, rfl⟩
    refine Kw.WX_take rfl rfl rfl rfl (fun _ _ _ h => h) hS (fun _ ⟨A_ga, A_gb, _⟩ => Kw.R_eqs rfl rfl hzz) ?_
    refine Kw.WX_take rfl rfl rfl rfl (fun _ _ _ h => h) hS (fun _ ⟨A_ga, A_gb, _⟩ => Kw.R_pickt rfl rfl) ?_
    refine Kw.WX_take rfl rfl rfl rfl (fun _ _ _ h => h) hS (fun _ ⟨A_ga, A_gb, _⟩ => Kw.R_assign rfl) ?_
    refine Kw.WX_nil ?_
    clear hS
    refine hK4 _ _ ?_; clear hK4 K4
    refine Kw.WC_sub (l' := [(4, .bool zz)]) (Kw.Sub.cons rfl Kw.Sub.nil) ?_
    refine Kw.WC_ret ?_
    exact Kw.post_ret1 rfl rfl ⟨by rw [dec_bA hzz]; simp [hne], HB⟩
end Go.Proofs.YtpggmnomcahijaaDoor.Fn
