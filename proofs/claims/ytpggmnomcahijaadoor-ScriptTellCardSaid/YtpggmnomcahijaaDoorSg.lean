/- A text's steps. -/
import Derived.Test.YtpggmnomcahijaaDoorSt
namespace Go.Proofs.YtpggmnomcahijaaDoor.Fn
open Go Go.Proofs Go.RowKit
set_option linter.unusedVariables false
set_option linter.unusedSimpArgs false
def stpsV (l : List Stp) : List Value := l.flatMap fun x => (stpCells x).toList
theorem stpsV_app (l m : List Stp) : stpsV (l ++ m) = stpsV l ++ stpsV m := by simp [stpsV]
theorem stpsV_one (x : Stp) : stpsV [x] = (stpCells x).toList := by simp [stpsV]
theorem getF_s (f : Nat) (s : List UInt8) (line : Nat) (acc : List Stp) : getF (f + 1) s line acc = if s = [] then (acc, 0, 0) else
    if (stepF (cutL 10 s).1).2 = true ∧ (cutL 10 s).2.2 = true then getF f (cutL 10 s).2.1 (line + 1) (acc ++ [(stepF (cutL 10 s).1).1]) else ([], line + 1, 10) := rfl
theorem getF_step {f : Nat} {s : List UInt8} {j : Nat} {acc : List Stp} {one rest : List UInt8} {X : Stp} (hs : s ≠ []) (h1 : (cutL 10 s).1 = one) (h2 : (cutL 10 s).2.1 = rest) (h3 : (cutL 10 s).2.2 = true) (h4 : (stepF one).1 = X) (h5 : (stepF one).2 = true) :
    getF (f + 1) s j acc = getF f rest (j + 1) (acc ++ [X]) := by
  rw [getF_s, if_neg hs, h1, h2, h3, h4, h5, if_pos ⟨rfl, rfl⟩]
theorem getF_bad1 {f : Nat} {s : List UInt8} {j : Nat} {acc : List Stp} {one : List UInt8} (hs : s ≠ []) (h1 : (cutL 10 s).1 = one) (h5 : (stepF one).2 = false) :
    getF (f + 1) s j acc = ([], j + 1, 10) := by
  rw [getF_s, if_neg hs, h1, h5, if_neg (fun h => absurd h.1 (by decide))]
theorem getF_bad2 {f : Nat} {s : List UInt8} {j : Nat} {acc : List Stp} (hs : s ≠ []) (h3 : (cutL 10 s).2.2 = false) :
    getF (f + 1) s j acc = ([], j + 1, 10) := by
  rw [getF_s, if_neg hs, h3, if_neg (fun h => absurd h.2 (by decide))]
theorem getF_end {f : Nat} {s : List UInt8} {j : Nat} {acc : List Stp} (hs : s = []) : getF f s j acc = (acc, 0, 0) := by
  cases f with
  | zero => rfl
  | succ f => rw [getF_s, if_pos hs]
theorem cutL_len (c : UInt8) : ∀ l, (cutL c l).1.length ≤ l.length ∧ (cutL c l).2.1.length ≤ l.length - 1
  | [] => ⟨Nat.le_refl _, Nat.le_refl _⟩
  | b :: l => by
    have ih := cutL_len c l
    rw [cutL_cons]
    split
    · exact ⟨by simp, by simp⟩
    · split
      · rename_i x y e
        rw [e] at ih
        simp only [List.length_cons] at ih ⊢; omega
      · simp
theorem cut_w (l : List UInt8) (hs : l.length ≤ 1000000000) (w : World) (G : Glob w) : Calls Tryd.prog 17 #[.string (bA l), .string ⟨#[10]⟩] w fun e w' => e = .returned (.tuple #[.string (bA (cutL 10 l).1), .string (bA (cutL 10 l).2.1), .bool (cutL 10 l).2.2]) ∧ Below w.heap.size w w' := by
  have := cut_c (bA l) (by rw [bA_size]; exact hs) w G
  rw [bA_back] at this; exact this
theorem step_w (l : List UInt8) (hs : l.length ≤ 1000000) (w : World) (G : Glob w) : Calls Tryd.prog 18 #[.string (bA l)] w fun e w' => e = .returned (.tuple #[.agg (stpCells (stepF l).1), .bool (stepF l).2]) ∧ Below w.heap.size w w' := by
  have := step_c (bA l) (by rw [bA_size]; exact hs) w G
  rw [bA_back] at this; exact this
theorem bA_nil {l : List UInt8} (h : bA l = ⟨#[]⟩) : l = [] := bA_inj h

set_option maxRecDepth 100000 in
set_option maxHeartbeats 4000000 in
theorem get_c (s : ByteArray) (hs : s.size ≤ 1000000) (w : World) (GG : Glob w) : Calls Tryd.prog 9 #[.string s] w (Kw.Back fun v w' => (∃ lv, v = .tuple #[lv, .int .i64 ((getL s.data.toList).2.1 : Int), .int .i64 ((getL s.data.toList).2.2 : Int)] ∧ Kw.Own w' w.heap.size 30 5 lv (getL s.data.toList).1.length (stpsV (getL s.data.toList).1)) ∧ Below w.heap.size w w') := by
  have HB : Below w.heap.size w w := Below.refl _ _
  unfold getL
  have hsb : Value.string s = .string (bA s.data.toList) := congrArg Value.string (bytes_back s).symm
  rw [hsb]
  have hsz := size_list s
  refine Kw.enter Tryd.func9 rfl Tryd.ntmps9 rfl rfl ?_
  refine Kw.WC_seq (fun K1 hK1 => ?_)
  refine Kw.WC_region [some 2, some 3, some 4] rfl ?_
  refine Kw.WL_v rfl rfl rfl (Kw.R_assign rfl) ?_
  refine Kw.WL_v rfl rfl rfl (Kw.R_assign rfl) ?_
  refine Kw.WL_v rfl rfl rfl (Kw.R_assign rfl) ?_
  refine Kw.WL_nil ?_
  refine hK1 _ _ ?_; clear hK1 K1
  refine Kw.WC_seq (fun K2 hK2 => ?_)
  refine Kw.WC_block ?_
  refine Kw.WC_loop (ι := Nat × List UInt8 × Nat × List Stp × Value) (fun (q : Nat × List UInt8 × Nat × List Stp × Value) (ww : World) => match q with | ⟨f, r, j, acc, v⟩ => (getF s.data.toList.length s.data.toList 0 [] = getF f r j acc ∧ r.length ≤ f ∧ f + j ≤ s.size ∧ acc.length ≤ j) ∧ Kw.Own ww w.heap.size 30 5 v acc.length (stpsV acc) ∧ Below w.heap.size w ww) (fun (q : Nat × List UInt8 × Nat × List Stp × Value) => match q with | ⟨f, r, j, acc, v⟩ => [(0, .string (bA r)), (2, v), (3, .int .i64 (j : Int))]) (fun (q : Nat × List UInt8 × Nat × List Stp × Value) => match q with | ⟨f, r, j, acc, v⟩ => f) (s.data.toList.length, s.data.toList, 0, [], .slice none 0 0) ⟨⟨rfl, Nat.le_refl _, by rw [size_list]; omega, Nat.le_refl _⟩, Kw.Own.nil _ _ _ _, HB⟩ (Kw.Sub.cons rfl (Kw.Sub.cons rfl (Kw.Sub.cons rfl Kw.Sub.nil))) ?_
  clear HB
  rintro ⟨f, r, j, acc, v⟩ w3 ⟨⟨hG, hf1, hf2, hf3⟩, O_v, HB⟩
  dsimp only at *
  refine Kw.WC_seq (fun K4 hK4 => ?_)
  refine Kw.WC_seq (fun K5 hK5 => ?_)
  refine Kw.WC_region [some 10, some 11] rfl ?_
  refine Kw.WL_v rfl rfl rfl (Kw.R_move rfl) ?_
  by_cases ce : bA r = ⟨#[]⟩
  ·
    refine Kw.WL_v rfl rfl rfl (Kw.R_nes (z := false) rfl rfl (decide_eq_true ce)) ?_
    have hR := hG.trans (getF_end (bA_nil ce))
    refine Kw.WL_nil ?_
    refine hK5 _ _ ?_; clear hK5 K5
    refine Kw.WC_false rfl ?_
    refine Kw.WC_exit ?_
    refine Kw.QE_then ?_; clear hK4 K4
    refine Kw.QE_then ?_
    refine Kw.QE_here ?_
    refine hK2 _ _ ?_; clear hK2 K2
    refine Kw.WC_seq (fun K6 hK6 => ?_)
    refine Kw.WC_region [some 37, some 2, some 3, some 4] rfl ?_
    refine Kw.WL_v rfl rfl rfl (Kw.R_move rfl) ?_
    refine Kw.WL_v rfl rfl rfl (Kw.R_assign rfl) ?_
    refine Kw.WL_v rfl rfl rfl (Kw.R_assign rfl) ?_
    refine Kw.WL_v rfl rfl rfl (Kw.R_assign rfl) ?_
    refine Kw.WL_nil ?_
    refine hK6 _ _ ?_; clear hK6 K6
    refine Kw.WC_ret ?_
    exact Kw.post_ret3 rfl rfl rfl rfl ⟨_, rfl, ⟨⟨v, by rw [hR]; rfl, by rw [hR]; exact O_v⟩, HB⟩⟩
  ·
    refine Kw.WL_v rfl rfl rfl (Kw.R_nes (z := true) rfl rfl (decide_eq_false ce)) ?_
    have hr0 : r ≠ [] := fun h => ce (by rw [h]; rfl)
    obtain ⟨f, rfl⟩ : ∃ x, f = x + 1 := ⟨f - 1, by have : r.length ≠ 0 := fun h => hr0 (List.eq_nil_of_length_eq_zero h); omega⟩
    obtain ⟨one, hone⟩ : ∃ x, (cutL 10 r).1 = x := ⟨_, rfl⟩
    obtain ⟨rest, hrest⟩ : ∃ x, (cutL 10 r).2.1 = x := ⟨_, rfl⟩
    obtain ⟨ed, hed⟩ : ∃ x, (cutL 10 r).2.2 = x := ⟨_, rfl⟩
    obtain ⟨X, hX⟩ : ∃ x, (stepF one).1 = x := ⟨_, rfl⟩
    obtain ⟨okb, hok⟩ : ∃ x, (stepF one).2 = x := ⟨_, rfl⟩
    have hcl := cutL_len 10 r; rw [hone, hrest] at hcl
    refine Kw.WL_nil ?_
    refine hK5 _ _ ?_; clear hK5 K5
    refine Kw.WC_true rfl ?_
    refine Kw.WC_skip ?_
    refine hK4 _ _ ?_; clear hK4 K4
    refine Kw.WC_block ?_
    refine Kw.WC_seq (fun K7 hK7 => ?_)
    refine Kw.WC_region [some 12, some 13, some 3] rfl ?_
    refine Kw.WL_v rfl rfl rfl (Kw.R_move rfl) ?_
    refine Kw.WL_v rfl rfl rfl (Kw.R_add (c := ((j + 1 : Nat) : Int)) rfl rfl (by rw [Kw.wrap_i64 (by omega)]; omega)) ?_
    refine Kw.WL_v rfl rfl rfl (Kw.R_assign rfl) ?_
    refine Kw.WL_nil ?_
    refine hK7 _ _ ?_; clear hK7 K7
    refine Kw.WC_seq (fun K8 hK8 => ?_)
    refine Kw.WC_region [some 15, some 16, some 14, some 17, some 18, some 19, some 5, some 6, some 7] rfl ?_
    refine Kw.WL_v rfl rfl rfl (Kw.R_move rfl) ?_
    refine Kw.WL_callc rfl rfl rfl rfl F.cl17 rfl ((by have := cut_w r (by omega) w3 (GG.below HB); rw [hone, hrest, hed] at this; exact this)) ?_; intro w9 bw9
    replace HB := Kw.Below.then HB (Nat.le_refl _) bw9
    replace O_v := O_v.call bw9
    clear bw9
    refine Kw.WL_v rfl rfl rfl (Kw.R_move rfl) ?_
    refine Kw.WL_v rfl rfl rfl (Kw.R_extract (v := .string (bA one)) rfl rfl) ?_
    refine Kw.WL_v rfl rfl rfl (Kw.R_extract (v := .string (bA rest)) rfl rfl) ?_
    refine Kw.WL_v rfl rfl rfl (Kw.R_extract (v := .bool ed) rfl rfl) ?_
    refine Kw.WL_v rfl rfl rfl (Kw.R_assign rfl) ?_
    refine Kw.WL_v rfl rfl rfl (Kw.R_assign rfl) ?_
    refine Kw.WL_v rfl rfl rfl (Kw.R_assign rfl) ?_
    refine Kw.WL_nil ?_
    refine hK8 _ _ ?_; clear hK8 K8
    refine Kw.WC_sub (l' := [(2, v), (3, .int .i64 ((j + 1 : Nat) : Int)), (5, .string (bA one)), (6, .string (bA rest)), (7, .bool ed)]) (Kw.Sub.cons rfl (Kw.Sub.cons rfl (Kw.Sub.cons rfl (Kw.Sub.cons rfl (Kw.Sub.cons rfl Kw.Sub.nil))))) ?_
    refine Kw.WC_seq (fun K10 hK10 => ?_)
    refine Kw.WC_region [some 21, some 22, some 20, some 23, some 24, some 8, none, some 9] rfl ?_
    refine Kw.WL_v rfl rfl rfl (Kw.R_move rfl) ?_
    refine Kw.WL_callc rfl rfl rfl rfl F.cl18 rfl ((by have := step_w one (by omega) w9 (GG.below HB); rw [hX, hok] at this; exact this)) ?_; intro w11 bw11
    replace HB := Kw.Below.then HB (Nat.le_refl _) bw11
    replace O_v := O_v.call bw11
    clear bw11
    refine Kw.WL_v rfl rfl rfl (Kw.R_move rfl) ?_
    refine Kw.WL_v rfl rfl rfl (Kw.R_extract (v := .agg (stpCells X)) rfl rfl) ?_
    refine Kw.WL_v rfl rfl rfl (Kw.R_extract (v := .bool okb) rfl rfl) ?_
    refine Kw.WL_alloc rfl rfl F.zr30 ?_; intro g8 w12 N_g8
    have A_g8 : Kw.At w12 g8 F.Z30 30 := N_g8.at_
    have D_v_g8 := O_v.ne_new N_g8; replace O_v := O_v.new N_g8
    have G_g8 := N_g8.ge HB (Nat.le_refl _); replace HB := N_g8.below HB (Nat.le_refl _); clear N_g8
    refine Kw.WL_storeW rfl rfl rfl (by exact F.sz30) A_g8 rfl rfl ?_; intro w13 M_g8
    replace A_g8 : Kw.At w13 g8 (stpCells X) 30 := M_g8.at_ A_g8
    replace O_v := O_v.wrote M_g8 D_v_g8
    replace HB := M_g8.below HB G_g8; clear M_g8
    refine Kw.WL_v rfl rfl rfl (Kw.R_assign rfl) ?_
    refine Kw.WL_nil ?_
    refine hK10 _ _ ?_; clear hK10 K10
    refine Kw.WC_sub (l' := [(2, v), (3, .int .i64 ((j + 1 : Nat) : Int)), (6, .string (bA rest)), (7, .bool ed), (8, .pointer (some ⟨g8, 0, none⟩)), (9, .bool okb)]) (Kw.Sub.cons rfl (Kw.Sub.cons rfl (Kw.Sub.cons rfl (Kw.Sub.cons rfl (Kw.Sub.cons rfl (Kw.Sub.cons rfl Kw.Sub.nil)))))) ?_
    refine Kw.WC_seq (fun K14 hK14 => ?_)
    refine Kw.WC_seq (fun K15 hK15 => ?_)
    refine Kw.WC_region [some 25, some 26, some 27, some 28, some 29, some 30] rfl ?_
    cases okb
    ·
      have hR := hG.trans (getF_bad1 hr0 hone hok)
      refine Kw.WL_v rfl rfl rfl (Kw.R_move rfl) ?_
      refine Kw.WL_v rfl rfl rfl (Kw.R_not rfl rfl) ?_
      refine Kw.WL_v rfl rfl rfl (Kw.R_move rfl) ?_
      refine Kw.WL_off rfl rfl rfl ?_
      refine Kw.WL_off rfl rfl rfl ?_
      refine Kw.WL_v rfl rfl rfl (Kw.R_pickt rfl rfl) ?_
      refine Kw.WL_nil ?_
      refine hK15 _ _ ?_; clear hK15 K15
      refine Kw.WC_true rfl ?_
      refine Kw.WC_seq (fun K16 hK16 => ?_)
      refine Kw.WC_region [some 31, some 2, some 3, some 4] rfl ?_
      refine Kw.WL_v rfl rfl rfl (Kw.R_move rfl) ?_
      refine Kw.WL_v rfl rfl rfl (Kw.R_assign rfl) ?_
      refine Kw.WL_v rfl rfl rfl (Kw.R_assign rfl) ?_
      refine Kw.WL_v rfl rfl rfl (Kw.R_assign rfl) ?_
      refine Kw.WL_nil ?_
      refine hK16 _ _ ?_; clear hK16 K16
      refine Kw.WC_sub (l' := [(2, .slice none 0 0), (3, .int .i64 ((j + 1 : Nat) : Int)), (4, .int .i64 10)]) (Kw.Sub.cons rfl (Kw.Sub.cons rfl (Kw.Sub.cons rfl Kw.Sub.nil))) ?_
      refine Kw.WC_ret ?_
      refine Kw.QR_then ?_; clear hK14 K14
      refine Kw.QR_block ?_
      refine Kw.QR_then ?_
      refine Kw.QR_block ?_
      refine Kw.QR_then ?_; clear hK2 K2
      exact Kw.post_ret3 rfl rfl rfl rfl ⟨_, rfl, ⟨⟨_, by rw [hR]; rfl, by rw [hR]; exact Kw.Own.nil _ _ _ _⟩, HB⟩⟩
    ·
      cases ed
      ·
        have hR := hG.trans (getF_bad2 hr0 hed)
        refine Kw.WL_v rfl rfl rfl (Kw.R_move rfl) ?_
        refine Kw.WL_v rfl rfl rfl (Kw.R_not rfl rfl) ?_
        refine Kw.WL_v rfl rfl rfl (Kw.R_move rfl) ?_
        refine Kw.WL_v rfl rfl rfl (Kw.R_move rfl) ?_
        refine Kw.WL_v rfl rfl rfl (Kw.R_not rfl rfl) ?_
        refine Kw.WL_v rfl rfl rfl (Kw.R_pickf rfl rfl) ?_
        refine Kw.WL_nil ?_
        refine hK15 _ _ ?_; clear hK15 K15
        refine Kw.WC_true rfl ?_
        refine Kw.WC_seq (fun K17 hK17 => ?_)
        refine Kw.WC_region [some 31, some 2, some 3, some 4] rfl ?_
        refine Kw.WL_v rfl rfl rfl (Kw.R_move rfl) ?_
        refine Kw.WL_v rfl rfl rfl (Kw.R_assign rfl) ?_
        refine Kw.WL_v rfl rfl rfl (Kw.R_assign rfl) ?_
        refine Kw.WL_v rfl rfl rfl (Kw.R_assign rfl) ?_
        refine Kw.WL_nil ?_
        refine hK17 _ _ ?_; clear hK17 K17
        refine Kw.WC_sub (l' := [(2, .slice none 0 0), (3, .int .i64 ((j + 1 : Nat) : Int)), (4, .int .i64 10)]) (Kw.Sub.cons rfl (Kw.Sub.cons rfl (Kw.Sub.cons rfl Kw.Sub.nil))) ?_
        refine Kw.WC_ret ?_
        refine Kw.QR_then ?_; clear hK14 K14
        refine Kw.QR_block ?_
        refine Kw.QR_then ?_
        refine Kw.QR_block ?_
        refine Kw.QR_then ?_; clear hK2 K2
        exact Kw.post_ret3 rfl rfl rfl rfl ⟨_, rfl, ⟨⟨_, by rw [hR]; rfl, by rw [hR]; exact Kw.Own.nil _ _ _ _⟩, HB⟩⟩
      ·
        refine Kw.WL_v rfl rfl rfl (Kw.R_move rfl) ?_
        refine Kw.WL_v rfl rfl rfl (Kw.R_not rfl rfl) ?_
        refine Kw.WL_v rfl rfl rfl (Kw.R_move rfl) ?_
        refine Kw.WL_v rfl rfl rfl (Kw.R_move rfl) ?_
        refine Kw.WL_v rfl rfl rfl (Kw.R_not rfl rfl) ?_
        refine Kw.WL_v rfl rfl rfl (Kw.R_pickf rfl rfl) ?_
        refine Kw.WL_nil ?_
        refine hK15 _ _ ?_; clear hK15 K15
        refine Kw.WC_false rfl ?_
        refine Kw.WC_skip ?_
        refine hK14 _ _ ?_; clear hK14 K14
        refine Kw.WC_sub (l' := [(2, v), (3, .int .i64 ((j + 1 : Nat) : Int)), (6, .string (bA rest)), (8, .pointer (some ⟨g8, 0, none⟩)), (28, .bool true), (29, .bool false)]) (Kw.Sub.cons rfl (Kw.Sub.cons rfl (Kw.Sub.cons rfl (Kw.Sub.cons rfl (Kw.Sub.cons rfl (Kw.Sub.cons rfl Kw.Sub.nil)))))) ?_
        refine Kw.WC_seq (fun K18 hK18 => ?_)
        refine Kw.WC_region [some 32, some 33, some 34, some 35, some 2] rfl ?_
        refine Kw.WL_v rfl rfl rfl (Kw.R_move rfl) ?_
        refine Kw.WL_v rfl rfl rfl (Kw.R_loadW rfl Tryd.underlying30 rfl (by exact F.sz30) A_g8) ?_
        obtain ⟨gy, w19, N_gy⟩ : ∃ b_ w2_, Kw.Newb w13 b_ (stpCells X) 30 w2_ := ⟨_, _, rfl, rfl⟩
        refine Kw.WL_v rfl rfl rfl (Kw.R_buildSlice rfl (fun w => by kernel_rfl) N_gy) ?_
        have L_g8_gy := N_gy.ne A_g8; replace A_g8 := N_gy.keep A_g8
        have A_gy : Kw.At w19 gy (stpCells X) 30 := N_gy.at_
        have D_v_gy := O_v.ne_new N_gy; replace O_v := O_v.new N_gy
        have G_gy := N_gy.ge HB (Nat.le_refl _); replace HB := N_gy.below HB (Nat.le_refl _); clear N_gy
        refine Kw.WL_append rfl rfl rfl rfl Tryd.underlying22 Tryd.underlying22 (.inr ⟨_, rfl⟩) F.sz30 F.by30 F.ze30 rfl O_v (Kw.News.row (news := (stpCells X).toList) A_gy rfl rfl (by simp [Value.oneCell', stpCells])) (by unfold maxLen; omega) (by omega) HB.size ?_; intro v35 w20 O_v35 R_v35
        have D_v35_g8 := R_v35.ne A_g8 D_v_g8
        replace A_g8 := R_v35.keep A_g8 D_v_g8
        have D_v35_gy := R_v35.ne A_gy D_v_gy
        replace A_gy := R_v35.keep A_gy D_v_gy
        replace HB := R_v35.below HB (Nat.le_refl _) (fun g hg => O_v.ge hg); clear R_v35
        replace O_v35 : Kw.Own w20 w.heap.size 30 5 v35 ((acc ++ [X]).length) (stpsV (acc ++ [X])) := by rw [stpsV_app, stpsV_one, List.length_append]; exact O_v35
        clear O_v
        clear A_gy
        refine Kw.WL_v rfl rfl rfl (Kw.R_assign rfl) ?_
        refine Kw.WL_nil ?_
        refine hK18 _ _ ?_; clear hK18 K18
        refine Kw.WC_region [some 36, some 0] rfl ?_
        refine Kw.WL_v rfl rfl rfl (Kw.R_move rfl) ?_
        refine Kw.WL_v rfl rfl rfl (Kw.R_assign rfl) ?_
        refine Kw.WL_nil ?_
        refine Kw.QN_block ?_
        refine Kw.QN_round ((f, rest, j + 1, acc ++ [X], v35)) ⟨⟨hG.trans (getF_step hr0 hone hrest hed hX hok), by (try dsimp only); omega, by (try dsimp only); omega, by (try dsimp only); rw [List.length_append, List.length_singleton]; omega⟩, O_v35, HB⟩ (by dsimp only; omega) (Kw.Sub.cons rfl (Kw.Sub.cons rfl (Kw.Sub.cons rfl Kw.Sub.nil)))
end Go.Proofs.YtpggmnomcahijaaDoor.Fn
