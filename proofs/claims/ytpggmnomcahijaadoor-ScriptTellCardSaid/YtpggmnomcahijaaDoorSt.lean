/- A line's step. -/
import Derived.Test.YtpggmnomcahijaaDoorSu
import Derived.Lib.AtoiAllCases
namespace Go.Proofs.YtpggmnomcahijaaDoor.Fn
open Go Go.Proofs Go.RowKit
set_option linter.unusedVariables false
set_option linter.unusedSimpArgs false
section
variable {P : Program} {G : List (Option Tmp)} {Q : Exit → Act → World → Prop} {l : Kw.Env} {n : Nat} {w : World} {ops : List Oper} {SS : World → Prop} {r : List (Nat × Bool)} {TT : TypeId} {S : String} {F : Array Edge} {g : Option (Nat × Bool)}
theorem WX_storeW {i : Nat} {t : TypeId} {x y : Operand} {b : Nat} {cs ds : Array Value} {U : TypeId} (hi : ops[i]? = some ⟨none, .store t x y, TT, S, F, g⟩) (hw : Kw.on G l g = true) (hx : Kw.ev l x = some (.pointer (some ⟨b, 0, none⟩))) (hy : Kw.ev l y = some (.agg ds)) (hs : Kw.sizeIs P t ds.size)
    (hb : Kw.At w b cs U) (hk : cs.size = ds.size) (h1 : ds.toList.all (·.oneCell') = true)
    (h : ∀ w', Kw.Wrote w b ds w' → SS w' ∧ Kw.WX P ops G Q SS r l n w') : Kw.WX P ops G Q SS ((i, false) :: r) l n w := by
  have he : Kw.splice cs 0 ds.toList = ds := Kw.splice_all cs ds hk
  have hW := Kw.wrote_splice (w := w) (o := 0) (vs := ds.toList) hb (by simp; omega) he
  obtain ⟨h3, h2⟩ := h _ hW
  exact Kw.WX_u hi hw rfl (Kw.R_store hx hy hs hb (by show 0 + ds.size ≤ _; omega) h1 he hW) h3 h2
end
theorem splitL_len (c : UInt8) (l : List UInt8) : 1 ≤ (splitL c l).length := by
  have := splitL_ne c l
  cases h : splitL c l with
  | nil => exact absurd h this
  | cons x xs => simp
theorem split_word (c : UInt8) : ∀ l, ∀ x ∈ splitL c l, x.length ≤ l.length
  | [], x, hx => by simp [splitL] at hx; simp [hx]
  | b :: l, x, hx => by
    have ih := split_word c l
    rw [splitL_cons] at hx
    split at hx
    · rcases List.mem_cons.1 hx with rfl | h
      · simp
      · have := ih x h; simp only [List.length_cons]; omega
    · split at hx
      · simp at hx; subst hx; simp
      · rename_i v vs e
        rw [e] at ih
        rcases List.mem_cons.1 hx with rfl | h
        · have := ih v (List.mem_cons_self); simp only [List.length_cons]; omega
        · have := ih x (List.mem_cons_of_mem _ h); simp only [List.length_cons]; omega
theorem getD_le {W : List (List UInt8)} {n : Nat} (h : ∀ x ∈ W, x.length ≤ n) (j : Nat) : (W.getD j []).length ≤ n := by
  rw [List.getD_eq_getElem?_getD]
  cases e : W[j]? with
  | none => simp
  | some x => exact h x (List.mem_of_getElem? e)
theorem wsV_at {W : List (List UInt8)} {j : Nat} (h : j < W.length) : (wsV W).toArray[j]? = some (.string (bA (W.getD j []))) := by
  rw [List.getElem?_toArray, wsV, List.getElem?_map, List.getElem?_eq_getElem h, List.getD_eq_getElem?_getD, List.getElem?_eq_getElem h]; rfl
def pa (W : List (List UInt8)) (i j : Nat) : Int := if j < i then atoiV (W.getD (1 + j) []) else 0
theorem tail_getD (W : List (List UInt8)) (j : Nat) : W.tail.getD j [] = W.getD (1 + j) [] := by
  cases W with
  | nil => simp
  | cons x xs => rw [Nat.add_comm]; simp
theorem headD_getD (W : List (List UInt8)) : W.headD [] = W.getD 0 [] := by cases W <;> rfl
theorem findK_step {w0 : List UInt8} {k : Nat} (h1 : k ≤ 13) (h : wordL k ≠ w0) : findK w0 (14 - k) = findK w0 (14 - (k + 1)) := by
  obtain ⟨f, hf, hf2⟩ : ∃ f, k = 13 - f ∧ f ≤ 13 := ⟨13 - k, by omega, by omega⟩
  subst hf
  rw [show 14 - (13 - f) = (13 - (13 - f)) + 1 by omega, findK, show 13 - (13 - (13 - f)) = 13 - f by omega, if_neg h, show 14 - (13 - f + 1) = 13 - (13 - f) by omega]
theorem findK_hit {w0 : List UInt8} {k : Nat} (h1 : k ≤ 13) (h : wordL k = w0) : findK w0 (14 - k) = some k := by
  rw [show 14 - k = (13 - k) + 1 by omega, findK, show 13 - (13 - k) = k by omega, if_pos h]
theorem stepX_eq (k : Nat) (W : List (List UInt8)) (T : ByteArray) (hT : T = if txtB k ∧ numsN k < W.tail.length then bA (unhexL (W.getD (1 + numsN k) []).tail) else ⟨#[]⟩) : stepX k W.tail = ⟨k, pa W (numsN k) 0, pa W (numsN k) 1, pa W (numsN k) 2, T⟩ := by
  subst hT
  unfold stepX pa
  simp only [tail_getD]
  rfl
theorem stepF_none {s : List UInt8} (h : findK ((splitL 32 s).getD 0 []) 13 = none) : stepF s = (stp0, false) := by
  unfold stepF; rw [headD_getD, h]
theorem stepF_few {s : List UInt8} {k : Nat} (h : findK ((splitL 32 s).getD 0 []) 13 = some k) (h2 : (splitL 32 s).length - 1 < numsN k) : stepF s = (stp0, false) := by
  unfold stepF; rw [headD_getD, h]; dsimp only; rw [if_pos (by rw [List.length_tail]; exact h2)]
theorem stepF_hit {s : List UInt8} {k : Nat} {X : Stp} (h : findK ((splitL 32 s).getD 0 []) 13 = some k) (h2 : numsN k ≤ (splitL 32 s).length - 1) (hX : stepX k (splitL 32 s).tail = X) : stepF s = (X, decide (lineL X = s ++ [10])) := by
  unfold stepF; rw [headD_getD, h]; dsimp only; rw [if_neg (by rw [List.length_tail]; omega), hX]
theorem bA_inj {l m : List UInt8} (h : bA l = bA m) : l = m := by have := congrArg (·.data.toList) h; simpa [bA] using this
theorem dec_bA {l m : List UInt8} {z : Bool} (h : decide (bA l = bA m) = z) : z = decide (l = m) := by
  rw [← h]; by_cases e : l = m
  · subst e; simp
  · rw [decide_eq_false e, decide_eq_false (fun x => e (bA_inj x))]
theorem s_nl (s : ByteArray) : s ++ ⟨#[10]⟩ = bA (s.data.toList ++ [10]) := by
  rw [← bA_app]; congr 1
theorem atoi_i64 (l : List UInt8) : i64 (atoiV l) := by
  unfold atoiV
  split
  · exact Lib.atoiAll_bounds (by assumption)
  · unfold Lib.atoiSat i64; split <;> omega
  · unfold i64; omega
theorem pa_i64 (W : List (List UInt8)) (i j : Nat) : i64 (pa W i j) := by
  unfold pa; split
  · exact atoi_i64 _
  · unfold i64; omega
theorem split_w (s : ByteArray) (hs : s.size ≤ 1000000000) (w : World) (G : Glob w) : Calls Tryd.prog 26 #[.string s, .string ⟨#[32]⟩] w (Kw.Back fun v w' => (∃ g : Nat, v = .slice (some ⟨g, 0, none⟩) (splitL 32 s.data.toList).length (splitL 32 s.data.toList).length ∧ w.heap.size ≤ g ∧ Kw.At w' g (wsV (splitL 32 s.data.toList)).toArray 9) ∧ Below w.heap.size w w') :=
  (split_c s hs w G).mono fun e w' ⟨v, he, ⟨g, ss, h1, h2, h3, h4⟩, hb⟩ => ⟨v, he, ⟨g, by rw [h1, ← h4, List.length_map], h2, by
    have : ss.map Value.string = wsV (splitL 32 s.data.toList) := by
      rw [← h4, wsV, List.map_map]
      apply List.map_congr_left
      intro x _
      exact congrArg Value.string (bytes_back x).symm
    rw [← this]; exact h3⟩, hb⟩
theorem atoi_w (l : List UInt8) (hs : l.length ≤ 1000000000) (w : World) (G : Glob w) : Calls Tryd.prog 27 #[.string (bA l)] w (Kw.Back fun v w' => (∃ ev, v = .tuple #[.int .i64 (atoiV l), ev]) ∧ Below w.heap.size w w') := by
  have := atoi_c (bA l) (by rw [bA_size]; exact hs) w G
  rw [bA_back] at this; exact this
theorem unhex_w (l : List UInt8) (hs : l.length ≤ 1000000) (w : World) : Calls Tryd.prog 28 #[.string (bA l)] w (Kw.Back fun v w' => (∃ z, v = .tuple #[.string (bA (unhexL l.tail)), .bool z]) ∧ Below w.heap.size w w') := by
  have := unhex_c (bA l) (by rw [bA_size]; exact hs) w
  rw [bA_back] at this; exact this
theorem ptr3_at (g : Nat) {i : Nat} (h : i < 3) : (#[.pointer (some ⟨g, 1, none⟩), .pointer (some ⟨g, 2, none⟩), .pointer (some ⟨g, 3, none⟩)] : Array Value)[i]? = some (.pointer (some ⟨g, 1 + i, none⟩)) := by
  have : i = 0 ∨ i = 1 ∨ i = 2 := by omega
  rcases this with rfl | rfl | rfl <;> rfl
def xCells (k : Nat) (W : List (List UInt8)) (i : Nat) (T : ByteArray) : Array Value := #[.int .i64 (k : Int), .int .i64 (pa W i 0), .int .i64 (pa W i 1), .int .i64 (pa W i 2), .string T]
theorem xCells_set (k : Nat) (W : List (List UInt8)) {i : Nat} (h : i < 3) (T : ByteArray) : (xCells k W i T).setIfInBounds (1 + i) (.int .i64 (atoiV (W.getD (1 + i) []))) = xCells k W (i + 1) T := by
  have : i = 0 ∨ i = 1 ∨ i = 2 := by omega
  rcases this with rfl | rfl | rfl <;> rfl
theorem splitL_count (c : UInt8) : ∀ l, (splitL c l).length ≤ l.length + 1
  | [] => by simp [splitL]
  | b :: l => by
    have ih := splitL_count c l
    rw [splitL_cons]
    split
    · simp only [List.length_cons]; omega
    · split
      · simp
      · rename_i v vs e
        rw [e] at ih
        simp only [List.length_cons] at ih ⊢; omega

set_option maxRecDepth 100000 in
set_option maxHeartbeats 4000000 in
theorem step_c (s : ByteArray) (hs : s.size ≤ 1000000) (w : World) (GG : Glob w) : Calls Tryd.prog 18 #[.string s] w fun e w' => e = .returned (.tuple #[.agg (stpCells (stepF s.data.toList).1), .bool (stepF s.data.toList).2]) ∧ Below w.heap.size w w' := by
  have HB : Below w.heap.size w w := Below.refl _ _
  refine Kw.enter Tryd.func18 rfl Tryd.ntmps18 rfl rfl ?_
  refine Kw.WC_seq (fun K1 hK1 => ?_)
  refine Kw.WC_region [some 2, some 3] rfl ?_
  refine Kw.WL_alloc rfl rfl F.zr30 ?_; intro g2 w2 N_g2
  have A_g2 : Kw.At w2 g2 F.Z30 30 := N_g2.at_
  have G_g2 := N_g2.ge HB (Nat.le_refl _); replace HB := N_g2.below HB (Nat.le_refl _); clear N_g2
  refine Kw.WL_v rfl rfl rfl (Kw.R_assign rfl) ?_
  refine Kw.WL_nil ?_
  refine hK1 _ _ ?_; clear hK1 K1
  refine Kw.WC_seq (fun K3 hK3 => ?_)
  refine Kw.WC_region [some 10, some 11, some 4] rfl ?_
  refine Kw.WL_v rfl rfl rfl (Kw.R_move rfl) ?_
  have A2lt := A_g2.lt
  refine Kw.WL_call rfl rfl rfl rfl F.cl26 rfl (split_w s (by omega) w2 (GG.below HB)) ?_; rintro _ w4 ⟨⟨gS, rfl, G0_gS, A_gS⟩, bw4⟩
  replace A_g2 := A_g2.call bw4
  have L_g2_gS : g2 < gS := (Nat.lt_of_lt_of_le A2lt G0_gS)
  have G_gS : w.heap.size ≤ gS := Nat.le_trans HB.size G0_gS
  replace HB := Kw.Below.then HB (Nat.le_refl _) bw4
  clear bw4
  obtain ⟨W, hW⟩ : ∃ W, W = splitL 32 s.data.toList := ⟨_, rfl⟩
  rw [← hW] at A_gS ⊢
  have hWl := splitL_len 32 s.data.toList; rw [← hW] at hWl
  have hWw := split_word 32 s.data.toList; rw [← hW, size_list] at hWw
  have hWn := splitL_count 32 s.data.toList; rw [← hW, size_list] at hWn
  refine Kw.WL_v rfl rfl rfl (Kw.R_assign rfl) ?_
  refine Kw.WL_nil ?_
  refine hK3 _ _ ?_; clear hK3 K3
  refine Kw.WC_seq (fun K5 hK5 => ?_)
  refine Kw.WC_seq (fun K6 hK6 => ?_)
  refine Kw.WC_region [some 5] rfl ?_
  refine Kw.WL_v rfl rfl rfl (Kw.R_assign rfl) ?_
  refine Kw.WL_nil ?_
  refine hK6 _ _ ?_; clear hK6 K6
  refine Kw.WC_block ?_
  refine Kw.WC_loop (ι := Nat) (fun (k : Nat) (ww : World) => (1 ≤ k ∧ k ≤ 14 ∧ findK (W.getD 0 []) 13 = findK (W.getD 0 []) (14 - k)) ∧ Kw.At ww g2 F.Z30 30 ∧ Kw.At ww gS ((wsV W).toArray) 9 ∧ Below w.heap.size w ww) (fun (k : Nat) => [(0, .string s), (2, .pointer (some ⟨g2, 0, none⟩)), (4, .slice (some ⟨gS, 0, none⟩) W.length W.length), (5, .int .i64 (k : Int))]) (fun (k : Nat) => 14 - k) 1 ⟨⟨by omega, by omega, rfl⟩, A_g2, A_gS, HB⟩ (Kw.Sub.cons rfl (Kw.Sub.cons rfl (Kw.Sub.cons rfl (Kw.Sub.cons rfl Kw.Sub.nil)))) ?_
  clear A_g2
  clear A_gS
  clear HB
  rintro k w7 ⟨⟨hk1, hk2, hinv⟩, A_g2, A_gS, HB⟩
  refine Kw.WC_seq (fun K8 hK8 => ?_)
  refine Kw.WC_seq (fun K9 hK9 => ?_)
  refine Kw.WC_region [some 12, some 13] rfl ?_
  refine Kw.WL_v rfl rfl rfl (Kw.R_move rfl) ?_
  by_cases c10 : (k : Int) ≤ 13
  ·
    refine Kw.WL_v rfl rfl rfl (Kw.R_leq (z := true) rfl rfl (decide_eq_true c10)) ?_
    refine Kw.WL_nil ?_
    refine hK9 _ _ ?_; clear hK9 K9
    refine Kw.WC_true rfl ?_
    refine Kw.WC_skip ?_
    refine hK8 _ _ ?_; clear hK8 K8
    refine Kw.WC_seq (fun K11 hK11 => ?_)
    refine Kw.WC_block ?_
    refine Kw.WC_seq (fun K12 hK12 => ?_)
    refine Kw.WC_region [some 16, some 17, some 18, some 6, none] rfl ?_
    obtain ⟨tx, htx⟩ : ∃ z, txtB k = z := ⟨_, rfl⟩
    have hn3 := numsN_le k
    refine Kw.WL_v rfl rfl rfl (Kw.R_move rfl) ?_
    refine Kw.WL_v rfl rfl rfl (Kw.R_indexAddrA (i := k) (o' := k * 3) rfl rfl Tryd.underlying60 F.sz59 (by omega) (by omega)) ?_
    refine Kw.WL_v rfl rfl rfl (Kw.R_loadcs (ds := #[.string (bA (wordL k)), .int .i64 (numsN k : Int), .bool tx]) rfl Tryd.underlying59 rfl (by exact F.sz59) (fun j v hv => (GG.below HB).tab (k * 3 + j) v (tab_at (by omega) j v (by rw [← htx] at hv; exact hv)))) ?_
    refine Kw.WL_alloc rfl rfl F.zr59 ?_; intro gu w13 N_gu
    have L_g2_gu := N_gu.ne A_g2; replace A_g2 := N_gu.keep A_g2
    have L_gS_gu := N_gu.ne A_gS; replace A_gS := N_gu.keep A_gS
    have A_gu : Kw.At w13 gu F.Z59 59 := N_gu.at_
    have G_gu := N_gu.ge HB (Nat.le_refl _); replace HB := N_gu.below HB (Nat.le_refl _); clear N_gu
    refine Kw.WL_storeW rfl rfl rfl (by exact F.sz59) A_gu rfl rfl ?_; intro w14 M_gu
    replace A_g2 := M_gu.keep A_g2 (Nat.ne_of_lt L_g2_gu)
    replace A_gS := M_gu.keep A_gS (Nat.ne_of_lt L_gS_gu)
    replace A_gu : Kw.At w14 gu #[.string (bA (wordL k)), .int .i64 (numsN k : Int), .bool tx] 59 := M_gu.at_ A_gu
    replace HB := M_gu.below HB G_gu; clear M_gu
    refine Kw.WL_nil ?_
    refine hK12 _ _ ?_; clear hK12 K12
    refine Kw.WC_seq (fun K15 hK15 => ?_)
    refine Kw.WC_seq (fun K16 hK16 => ?_)
    refine Kw.WC_sched (fun ww => Kw.At ww g2 F.Z30 30 ∧ Kw.At ww gS ((wsV W).toArray) 9 ∧ Kw.At ww gu #[.string (bA (wordL k)), .int .i64 (numsN k : Int), .bool tx] 59 ∧ True) [(0, true), (1, true), (2, true), (3, true), (4, true), (5, true)] [some 19, some 20, some 21, some 22, some 23, some 24] rfl (by kernel_rfl) rfl (by kernel_rfl) ?_
    obtain ⟨w17, hww17⟩ : ∃ x : World, x = Go.World.drew w14 := ⟨_, rfl⟩
    rw [← hww17]
    replace A_g2 : Kw.At w17 g2 F.Z30 30 := by rw [hww17]; exact A_g2
    replace A_gS : Kw.At w17 gS ((wsV W).toArray) 9 := by rw [hww17]; exact A_gS
    replace A_gu : Kw.At w17 gu #[.string (bA (wordL k)), .int .i64 (numsN k : Int), .bool tx] 59 := by rw [hww17]; exact A_gu
    replace HB : Below w.heap.size w w17 := by rw [hww17]; exact HB.drew
    clear hww17
    have hS : Kw.At w17 g2 F.Z30 30 ∧ Kw.At w17 gS ((wsV W).toArray) 9 ∧ Kw.At w17 gu #[.string (bA (wordL k)), .int .i64 (numsN k : Int), .bool tx] 59 ∧ True := ⟨A_g2, A_gS, A_gu, trivial⟩
    refine Kw.WX_take rfl rfl rfl rfl (fun _ _ _ h => h) hS (fun _ ⟨A_g2, A_gS, A_gu, _⟩ => Kw.R_fieldAddr (o' := 0) (k := 0) rfl Tryd.underlying59 rfl F.sz9 rfl) ?_
    refine Kw.WX_take rfl rfl rfl rfl (fun _ _ _ h => h) hS (fun _ ⟨A_g2, A_gS, A_gu, _⟩ => Kw.R_load1 (v := .string (bA (wordL k))) rfl Tryd.underlying9 rfl A_gu rfl) ?_
    refine Kw.WX_take rfl rfl rfl rfl (fun _ _ _ h => h) hS (fun _ ⟨A_g2, A_gS, A_gu, _⟩ => Kw.R_move rfl) ?_
    refine Kw.WX_take rfl rfl rfl rfl (fun _ _ _ h => h) hS (fun _ ⟨A_g2, A_gS, A_gu, _⟩ => Kw.R_indexAddrS (i := 0) (o' := 0) rfl rfl Tryd.underlying61 F.sz9 (by omega) (rfl)) ?_
    refine Kw.WX_take rfl rfl rfl rfl (fun _ _ _ h => h) hS (fun _ ⟨A_g2, A_gS, A_gu, _⟩ => Kw.R_load1 (v := .string (bA (W.getD 0 []))) rfl Tryd.underlying9 rfl A_gS (wsV_at (by omega))) ?_
    by_cases cw : bA (wordL k) = bA (W.getD 0 [])
    ·
      refine Kw.WX_take rfl rfl rfl rfl (fun _ _ _ h => h) hS (fun _ ⟨A_g2, A_gS, A_gu, _⟩ => Kw.R_nes (z := false) rfl rfl (decide_eq_true cw)) ?_
      have hFk : findK (W.getD 0 []) 13 = some k := by rw [hinv]; exact findK_hit (by omega) (bA_inj cw)
      clear hinv
      refine Kw.WX_nil ?_
      clear hS
      refine hK16 _ _ ?_; clear hK16 K16
      refine Kw.WC_sub (l' := [(0, .string s), (2, .pointer (some ⟨g2, 0, none⟩)), (4, .slice (some ⟨gS, 0, none⟩) W.length W.length), (5, .int .i64 (k : Int)), (6, .pointer (some ⟨gu, 0, none⟩)), (24, .bool false)]) (Kw.Sub.cons rfl (Kw.Sub.cons rfl (Kw.Sub.cons rfl (Kw.Sub.cons rfl (Kw.Sub.cons rfl (Kw.Sub.cons rfl Kw.Sub.nil)))))) ?_
      refine Kw.WC_false rfl ?_
      refine Kw.WC_skip ?_
      refine hK15 _ _ ?_; clear hK15 K15
      refine Kw.WC_seq (fun K18 hK18 => ?_)
      refine Kw.WC_region [some 25, some 26, some 7, none] rfl ?_
      refine Kw.WL_v rfl rfl rfl (Kw.R_move rfl) ?_
      refine Kw.WL_v rfl rfl rfl (Kw.R_build (cs := #[.int .i64 (k : Int), .int .i64 0, .int .i64 0, .int .i64 0, .string ⟨#[]⟩]) rfl (fun w => by kernel_rfl)) ?_
      refine Kw.WL_alloc rfl rfl F.zr30 ?_; intro g7 w19 N_g7
      have L_g2_g7 := N_g7.ne A_g2; replace A_g2 := N_g7.keep A_g2
      have L_gS_g7 := N_g7.ne A_gS; replace A_gS := N_g7.keep A_gS
      have L_gu_g7 := N_g7.ne A_gu; replace A_gu := N_g7.keep A_gu
      have A_g7 : Kw.At w19 g7 F.Z30 30 := N_g7.at_
      have G_g7 := N_g7.ge HB (Nat.le_refl _); replace HB := N_g7.below HB (Nat.le_refl _); clear N_g7
      refine Kw.WL_storeW rfl rfl rfl (by exact F.sz30) A_g7 rfl rfl ?_; intro w20 M_g7
      replace A_g2 := M_g7.keep A_g2 (Nat.ne_of_lt L_g2_g7)
      replace A_gS := M_g7.keep A_gS (Nat.ne_of_lt L_gS_g7)
      replace A_gu := M_g7.keep A_gu (Nat.ne_of_lt L_gu_g7)
      replace A_g7 : Kw.At w20 g7 #[.int .i64 (k : Int), .int .i64 0, .int .i64 0, .int .i64 0, .string ⟨#[]⟩] 30 := M_g7.at_ A_g7
      replace HB := M_g7.below HB G_g7; clear M_g7
      refine Kw.WL_nil ?_
      refine hK18 _ _ ?_; clear hK18 K18
      refine Kw.WC_seq (fun K21 hK21 => ?_)
      refine Kw.WC_region [some 27, some 28, some 4] rfl ?_
      refine Kw.WL_v rfl rfl rfl (Kw.R_move rfl) ?_
      obtain ⟨o0, ho0⟩ : ∃ x : Nat, (if W.length = 1 then 0 else 0 + 1 * 1) = x := ⟨_, rfl⟩
      refine Kw.WL_v rfl rfl rfl (Kw.R_slicel (i := 1) (j := W.length) (m := W.length) (o' := o0) rfl Tryd.underlying61 F.sz9 ⟨_, rfl⟩ rfl rfl (by omega) (by omega) (by omega) rfl (ho0)) ?_
      obtain ⟨m0, hm0⟩ : ∃ m, W.length - 1 = m := ⟨_, rfl⟩
      rw [hm0]
      have ho0p : 0 < m0 → o0 = 1 := fun h => by rw [← ho0, if_neg (by omega)]
      refine Kw.WL_v rfl rfl rfl (Kw.R_assign rfl) ?_
      refine Kw.WL_nil ?_
      refine hK21 _ _ ?_; clear hK21 K21
      refine Kw.WC_sub (l' := [(0, .string s), (2, .pointer (some ⟨g2, 0, none⟩)), (4, .slice (some ⟨gS, o0, none⟩) m0 m0), (6, .pointer (some ⟨gu, 0, none⟩)), (7, .pointer (some ⟨g7, 0, none⟩))]) (Kw.Sub.cons rfl (Kw.Sub.cons rfl (Kw.Sub.cons rfl (Kw.Sub.cons rfl (Kw.Sub.cons rfl Kw.Sub.nil))))) ?_
      refine Kw.WC_seq (fun K22 hK22 => ?_)
      refine Kw.WC_seq (fun K23 hK23 => ?_)
      refine Kw.WC_region [some 29, some 30, some 31, some 32, some 33, some 34, some 35, some 36, some 37] rfl ?_
      refine Kw.WL_v rfl rfl rfl (Kw.R_fieldAddr (o' := 1) (k := 0) rfl Tryd.underlying30 rfl F.sz3 rfl) ?_
      refine Kw.WL_v rfl rfl rfl (Kw.R_fieldAddr (o' := 2) (k := 0) rfl Tryd.underlying30 rfl F.sz3 rfl) ?_
      refine Kw.WL_v rfl rfl rfl (Kw.R_fieldAddr (o' := 3) (k := 0) rfl Tryd.underlying30 rfl F.sz3 rfl) ?_
      obtain ⟨g32, w24, N_g32⟩ : ∃ b_ w2_, Kw.Newb w20 b_ #[.pointer (some ⟨g7, 1, none⟩), .pointer (some ⟨g7, 2, none⟩), .pointer (some ⟨g7, 3, none⟩)] 69 w2_ := ⟨_, _, rfl, rfl⟩
      refine Kw.WL_v rfl rfl rfl (Kw.R_buildSlice rfl (fun w => by kernel_rfl) N_g32) ?_
      have L_g2_g32 := N_g32.ne A_g2; replace A_g2 := N_g32.keep A_g2
      have L_gS_g32 := N_g32.ne A_gS; replace A_gS := N_g32.keep A_gS
      have L_gu_g32 := N_g32.ne A_gu; replace A_gu := N_g32.keep A_gu
      have L_g7_g32 := N_g32.ne A_g7; replace A_g7 := N_g32.keep A_g7
      have A_g32 : Kw.At w24 g32 #[.pointer (some ⟨g7, 1, none⟩), .pointer (some ⟨g7, 2, none⟩), .pointer (some ⟨g7, 3, none⟩)] 69 := N_g32.at_
      have G_g32 := N_g32.ge HB (Nat.le_refl _); replace HB := N_g32.below HB (Nat.le_refl _); clear N_g32
      refine Kw.WL_v rfl rfl rfl (Kw.R_fieldAddr (o' := 1) (k := 0) rfl Tryd.underlying59 rfl F.sz3 rfl) ?_
      refine Kw.WL_v rfl rfl rfl (Kw.R_load1 (v := .int .i64 (numsN k : Int)) rfl Tryd.underlying3 rfl A_gu rfl) ?_
      refine Kw.WL_v rfl rfl rfl (Kw.R_slicel (i := 0) (j := numsN k) (m := 3) (o' := 0) rfl Tryd.underlying68 F.sz69 rfl ⟨_, rfl⟩ rfl (by omega) (by omega) (by omega) rfl (by simp)) ?_
      refine Kw.WL_v rfl rfl rfl (Kw.R_lenl Tryd.underlying68 rfl) ?_
      refine Kw.WL_v rfl rfl rfl (Kw.R_move rfl) ?_
      refine Kw.WL_nil ?_
      refine hK23 _ _ ?_; clear hK23 K23
      refine Kw.WC_sub (l' := [(0, .string s), (2, .pointer (some ⟨g2, 0, none⟩)), (4, .slice (some ⟨gS, o0, none⟩) m0 m0), (6, .pointer (some ⟨gu, 0, none⟩)), (7, .pointer (some ⟨g7, 0, none⟩)), (35, .slice (some ⟨g32, 0, none⟩) (numsN k) 3), (36, .int .i64 (numsN k : Int)), (37, .int .i64 0)]) (Kw.Sub.cons rfl (Kw.Sub.cons rfl (Kw.Sub.cons rfl (Kw.Sub.cons rfl (Kw.Sub.cons rfl (Kw.Sub.cons rfl (Kw.Sub.cons rfl (Kw.Sub.cons rfl Kw.Sub.nil)))))))) ?_
      refine Kw.WC_block ?_
      refine Kw.WC_loop (ι := Nat × Nat × Nat) (fun (q : Nat × Nat × Nat) (ww : World) => match q with | ⟨i, oo, m⟩ => (i ≤ numsN k ∧ i + m = W.length - 1 ∧ (0 < m → oo = 1 + i)) ∧ Kw.At ww g2 F.Z30 30 ∧ Kw.At ww gS ((wsV W).toArray) 9 ∧ Kw.At ww gu #[.string (bA (wordL k)), .int .i64 (numsN k : Int), .bool tx] 59 ∧ Kw.At ww g7 #[.int .i64 (k : Int), .int .i64 (pa W i 0), .int .i64 (pa W i 1), .int .i64 (pa W i 2), .string ⟨#[]⟩] 30 ∧ Kw.At ww g32 #[.pointer (some ⟨g7, 1, none⟩), .pointer (some ⟨g7, 2, none⟩), .pointer (some ⟨g7, 3, none⟩)] 69 ∧ Below w.heap.size w ww) (fun (q : Nat × Nat × Nat) => match q with | ⟨i, oo, m⟩ => [(0, .string s), (2, .pointer (some ⟨g2, 0, none⟩)), (4, .slice (some ⟨gS, oo, none⟩) m m), (6, .pointer (some ⟨gu, 0, none⟩)), (7, .pointer (some ⟨g7, 0, none⟩)), (35, .slice (some ⟨g32, 0, none⟩) (numsN k) 3), (36, .int .i64 (numsN k : Int)), (37, .int .i64 (i : Int))]) (fun (q : Nat × Nat × Nat) => match q with | ⟨i, oo, m⟩ => numsN k - i) (0, o0, m0) ⟨⟨Nat.zero_le _, by omega, fun h => by rw [ho0p h]⟩, A_g2, A_gS, A_gu, A_g7, A_g32, HB⟩ (Kw.Sub.cons rfl (Kw.Sub.cons rfl (Kw.Sub.cons rfl (Kw.Sub.cons rfl (Kw.Sub.cons rfl (Kw.Sub.cons rfl (Kw.Sub.cons rfl (Kw.Sub.cons rfl Kw.Sub.nil)))))))) ?_
      clear A_g2
      clear A_gS
      clear A_gu
      clear A_g7
      clear A_g32
      clear HB
      rintro ⟨i, oo, m⟩ w25 ⟨⟨hi1, hi2, hoo⟩, A_g2, A_gS, A_gu, A_g7, A_g32, HB⟩
      dsimp only at *
      refine Kw.WC_seq (fun K26 hK26 => ?_)
      refine Kw.WC_region [some 38] rfl ?_
      by_cases c27 : (i : Int) < (numsN k : Int)
      ·
        refine Kw.WL_v rfl rfl rfl (Kw.R_lss (z := true) rfl rfl (decide_eq_true c27)) ?_
        refine Kw.WL_nil ?_
        refine hK26 _ _ ?_; clear hK26 K26
        refine Kw.WC_seq (fun K28 hK28 => ?_)
        refine Kw.WC_true rfl ?_
        refine Kw.WC_skip ?_
        refine hK28 _ _ ?_; clear hK28 K28
        refine Kw.WC_seq (fun K29 hK29 => ?_)
        refine Kw.WC_block ?_
        refine Kw.WC_seq (fun K30 hK30 => ?_)
        refine Kw.WC_region [some 39, some 40, some 9] rfl ?_
        refine Kw.WL_v rfl rfl rfl (Kw.R_indexAddrS (i := i) (o' := i) rfl rfl Tryd.underlying68 F.sz69 (by omega) (by omega)) ?_
        refine Kw.WL_v rfl rfl rfl (Kw.R_load1 (v := .pointer (some ⟨g7, 1 + i, none⟩)) rfl Tryd.underlying69 rfl A_g32 (ptr3_at g7 (by omega))) ?_
        refine Kw.WL_v rfl rfl rfl (Kw.R_assign rfl) ?_
        refine Kw.WL_nil ?_
        refine hK30 _ _ ?_; clear hK30 K30
        refine Kw.WC_seq (fun K31 hK31 => ?_)
        refine Kw.WC_seq (fun K32 hK32 => ?_)
        refine Kw.WC_region [some 41, some 42, some 43] rfl ?_
        refine Kw.WL_v rfl rfl rfl (Kw.R_move rfl) ?_
        refine Kw.WL_v rfl rfl rfl (Kw.R_lenl Tryd.underlying61 rfl) ?_
        by_cases c33 : (m : Int) = 0
        ·
          refine Kw.WL_v rfl rfl rfl (Kw.R_eqi (z := true) rfl rfl (decide_eq_true c33)) ?_
          have hF := stepF_few (s := s.data.toList) (k := k) (by rw [← hW]; exact hFk) (by rw [← hW]; omega)
          refine Kw.WL_nil ?_
          refine hK32 _ _ ?_; clear hK32 K32
          refine Kw.WC_true rfl ?_
          refine Kw.WC_seq (fun K34 hK34 => ?_)
          refine Kw.WC_region [some 44, none, some 3] rfl ?_
          refine Kw.WL_v rfl rfl rfl (F.R_bz30) ?_
          refine Kw.WL_storeW rfl rfl rfl (by exact F.sz30) A_g2 rfl rfl ?_; intro w35 M_g2
          replace A_gS := M_g2.keep A_gS (Nat.ne_of_gt L_g2_gS)
          replace A_gu := M_g2.keep A_gu (Nat.ne_of_gt L_g2_gu)
          replace A_g7 := M_g2.keep A_g7 (Nat.ne_of_gt L_g2_g7)
          replace A_g32 := M_g2.keep A_g32 (Nat.ne_of_gt L_g2_g32)
          replace A_g2 : Kw.At w35 g2 F.Z30 30 := M_g2.at_ A_g2
          replace HB := M_g2.below HB G_g2; clear M_g2
          refine Kw.WL_v rfl rfl rfl (Kw.R_assign rfl) ?_
          refine Kw.WL_nil ?_
          refine hK34 _ _ ?_; clear hK34 K34
          refine Kw.WC_sub (l' := [(2, .pointer (some ⟨g2, 0, none⟩)), (3, .bool false)]) (Kw.Sub.cons rfl (Kw.Sub.cons rfl Kw.Sub.nil)) ?_
          refine Kw.WC_ret ?_
          refine Kw.QR_then ?_; clear hK31 K31
          refine Kw.QR_block ?_
          refine Kw.QR_then ?_; clear hK29 K29
          refine Kw.QR_then ?_
          refine Kw.QR_block ?_
          refine Kw.QR_then ?_; clear hK22 K22
          refine Kw.QR_block ?_
          refine Kw.QR_then ?_; clear hK11 K11
          refine Kw.QR_then ?_
          refine Kw.QR_block ?_
          refine Kw.QR_then ?_; clear hK5 K5
          exact Kw.post_ret2 rfl (Kw.RV_row rfl Tryd.underlying30 rfl (by exact F.sz30) A_g2) rfl ⟨by rw [hF]; rfl, HB⟩
        ·
          refine Kw.WL_v rfl rfl rfl (Kw.R_eqi (z := false) rfl rfl (decide_eq_false c33)) ?_
          refine Kw.WL_nil ?_
          refine hK32 _ _ ?_; clear hK32 K32
          refine Kw.WC_false rfl ?_
          refine Kw.WC_skip ?_
          refine hK31 _ _ ?_; clear hK31 K31
          refine Kw.WC_sub (l' := [(0, .string s), (2, .pointer (some ⟨g2, 0, none⟩)), (4, .slice (some ⟨gS, oo, none⟩) m m), (6, .pointer (some ⟨gu, 0, none⟩)), (7, .pointer (some ⟨g7, 0, none⟩)), (35, .slice (some ⟨g32, 0, none⟩) (numsN k) 3), (36, .int .i64 (numsN k : Int)), (37, .int .i64 (i : Int)), (9, .pointer (some ⟨g7, 1 + i, none⟩))]) (Kw.Sub.cons rfl (Kw.Sub.cons rfl (Kw.Sub.cons rfl (Kw.Sub.cons rfl (Kw.Sub.cons rfl (Kw.Sub.cons rfl (Kw.Sub.cons rfl (Kw.Sub.cons rfl (Kw.Sub.cons rfl Kw.Sub.nil))))))))) ?_
          refine Kw.WC_seq (fun K36 hK36 => ?_)
          refine Kw.WC_region [some 46, some 47, some 48, some 49, some 50, some 45, some 51, some 52, some 53, none] rfl ?_
          refine Kw.WL_v rfl rfl rfl (Kw.R_move rfl) ?_
          refine Kw.WL_v rfl rfl rfl (Kw.R_move rfl) ?_
          refine Kw.WL_v rfl rfl rfl (Kw.R_indexAddrS (i := 0) (o' := oo + 0) rfl rfl Tryd.underlying61 F.sz9 (by omega) (by omega)) ?_
          refine Kw.WL_v rfl rfl rfl (Kw.R_load1 (v := .string (bA (W.getD (1 + i) []))) rfl Tryd.underlying9 rfl A_gS (by rw [hoo (by omega)]; exact wsV_at (by omega))) ?_
          refine Kw.WL_call rfl rfl rfl rfl F.cl27 rfl (atoi_w (W.getD (1 + i) []) (Nat.le_trans (getD_le hWw _) (by omega)) w25 (GG.below HB)) ?_; rintro _ w37 ⟨⟨ev, rfl⟩, bw37⟩
          replace A_g2 := A_g2.call bw37
          replace A_gS := A_gS.call bw37
          replace A_gu := A_gu.call bw37
          replace A_g7 := A_g7.call bw37
          replace A_g32 := A_g32.call bw37
          replace HB := Kw.Below.then HB (Nat.le_refl _) bw37
          clear bw37
          refine Kw.WL_v rfl rfl rfl (Kw.R_move rfl) ?_
          refine Kw.WL_v rfl rfl rfl (Kw.R_extract (v := .int .i64 (atoiV (W.getD (1 + i) []))) rfl rfl) ?_
          refine Kw.WL_v rfl rfl rfl (Kw.R_extract (v := ev) rfl rfl) ?_
          refine Kw.WL_v rfl rfl rfl (Kw.R_nilok rfl) ?_
          refine Kw.WL_store1 (ds := #[.int .i64 (k : Int), .int .i64 (pa W (i + 1) 0), .int .i64 (pa W (i + 1) 1), .int .i64 (pa W (i + 1) 2), .string ⟨#[]⟩]) rfl rfl rfl F.sz3 A_g7 (by show 1 + i < 5; omega) rfl rfl (xCells_set k W (by omega) ⟨#[]⟩) ?_; intro w38 M_g7
          replace A_g2 := M_g7.keep A_g2 (Nat.ne_of_lt L_g2_g7)
          replace A_gS := M_g7.keep A_gS (Nat.ne_of_lt L_gS_g7)
          replace A_gu := M_g7.keep A_gu (Nat.ne_of_lt L_gu_g7)
          replace A_g32 := M_g7.keep A_g32 (Nat.ne_of_gt L_g7_g32)
          replace A_g7 : Kw.At w38 g7 #[.int .i64 (k : Int), .int .i64 (pa W (i + 1) 0), .int .i64 (pa W (i + 1) 1), .int .i64 (pa W (i + 1) 2), .string ⟨#[]⟩] 30 := M_g7.at_ A_g7
          replace HB := M_g7.below HB G_g7; clear M_g7
          refine Kw.WL_nil ?_
          refine hK36 _ _ ?_; clear hK36 K36
          refine Kw.WC_sub (l' := [(0, .string s), (2, .pointer (some ⟨g2, 0, none⟩)), (4, .slice (some ⟨gS, oo, none⟩) m m), (6, .pointer (some ⟨gu, 0, none⟩)), (7, .pointer (some ⟨g7, 0, none⟩)), (35, .slice (some ⟨g32, 0, none⟩) (numsN k) 3), (36, .int .i64 (numsN k : Int)), (37, .int .i64 (i : Int))]) (Kw.Sub.cons rfl (Kw.Sub.cons rfl (Kw.Sub.cons rfl (Kw.Sub.cons rfl (Kw.Sub.cons rfl (Kw.Sub.cons rfl (Kw.Sub.cons rfl (Kw.Sub.cons rfl Kw.Sub.nil)))))))) ?_
          refine Kw.WC_region [some 54, some 55, some 4] rfl ?_
          refine Kw.WL_v rfl rfl rfl (Kw.R_move rfl) ?_
          obtain ⟨o1, ho1⟩ : ∃ x : Nat, (if m = 1 then oo else oo + 1 * 1) = x := ⟨_, rfl⟩
          refine Kw.WL_v rfl rfl rfl (Kw.R_slicel (i := 1) (j := m) (m := m) (o' := o1) rfl Tryd.underlying61 F.sz9 ⟨_, rfl⟩ rfl rfl (by omega) (by omega) (by omega) rfl (ho1)) ?_
          obtain ⟨m1, hm1⟩ : ∃ x, m - 1 = x := ⟨_, rfl⟩
          rw [hm1]
          refine Kw.WL_v rfl rfl rfl (Kw.R_assign rfl) ?_
          refine Kw.WL_nil ?_
          refine Kw.QN_block ?_
          refine hK29 _ _ ?_; clear hK29 K29
          refine Kw.WC_region [some 56, some 37] rfl ?_
          refine Kw.WL_v rfl rfl rfl (Kw.R_add (c := ((i + 1 : Nat) : Int)) rfl rfl (by rw [Kw.wrap_i64 (by omega)]; omega)) ?_
          refine Kw.WL_v rfl rfl rfl (Kw.R_move rfl) ?_
          refine Kw.WL_nil ?_
          refine Kw.QN_round ((i + 1, o1, m1)) ⟨⟨by (try dsimp only); omega, by (try dsimp only); omega, by (try dsimp only); intro h; rw [← ho1, if_neg (by omega), hoo (by omega)]; omega⟩, A_g2, A_gS, A_gu, A_g7, A_g32, HB⟩ (by dsimp only; omega) (Kw.Sub.cons rfl (Kw.Sub.cons rfl (Kw.Sub.cons rfl (Kw.Sub.cons rfl (Kw.Sub.cons rfl (Kw.Sub.cons rfl (Kw.Sub.cons rfl (Kw.Sub.cons rfl Kw.Sub.nil))))))))
      ·
        refine Kw.WL_v rfl rfl rfl (Kw.R_lss (z := false) rfl rfl (decide_eq_false c27)) ?_
        obtain rfl : i = (numsN k) := by omega
        refine Kw.WL_nil ?_
        refine hK26 _ _ ?_; clear hK26 K26
        refine Kw.WC_seq (fun K39 hK39 => ?_)
        refine Kw.WC_false rfl ?_
        refine Kw.WC_exit ?_
        refine Kw.QE_then ?_; clear hK39 K39
        refine Kw.QE_then ?_
        refine Kw.QE_here ?_
        refine hK22 _ _ ?_; clear hK22 K22
        refine Kw.WC_seq (fun K40 hK40 => ?_)
        refine Kw.WC_seq (fun K41 hK41 => ?_)
        refine Kw.WC_region [some 57, some 58, some 59, some 60, some 61, some 62, some 63] rfl ?_
        refine Kw.WL_v rfl rfl rfl (Kw.R_fieldAddr (o' := 2) (k := 0) rfl Tryd.underlying59 rfl F.sz4 rfl) ?_
        cases tx
        ·
          refine Kw.WL_v rfl rfl rfl (Kw.R_load1 (v := .bool false) rfl Tryd.underlying4 rfl A_gu rfl) ?_
          refine Kw.WL_v rfl rfl rfl (Kw.R_move rfl) ?_
          refine Kw.WL_off rfl rfl rfl ?_
          refine Kw.WL_off rfl rfl rfl ?_
          refine Kw.WL_off rfl rfl rfl ?_
          refine Kw.WL_v rfl rfl rfl (Kw.R_pickf rfl rfl) ?_
          refine Kw.WL_nil ?_
          refine hK41 _ _ ?_; clear hK41 K41
          refine Kw.WC_sub (l' := [(0, .string s), (2, .pointer (some ⟨g2, 0, none⟩)), (4, .slice (some ⟨gS, oo, none⟩) m m), (7, .pointer (some ⟨g7, 0, none⟩)), (63, .bool false)]) (Kw.Sub.cons rfl (Kw.Sub.cons rfl (Kw.Sub.cons rfl (Kw.Sub.cons rfl (Kw.Sub.cons rfl Kw.Sub.nil))))) ?_
          refine Kw.WC_false rfl ?_
          refine Kw.WC_skip ?_
          refine hK40 _ _ ?_; clear hK40 K40
          refine Kw.WC_seq (fun K42 hK42 => ?_)
          obtain ⟨X, hX⟩ : ∃ X : Stp, X = ⟨(k : Int), pa W (numsN k) 0, pa W (numsN k) 1, pa W (numsN k) 2, ⟨#[]⟩⟩ := ⟨_, rfl⟩
          have oX : okS X := by rw [hX]; exact ⟨by unfold i64; dsimp only; omega, pa_i64 _ _ _, pa_i64 _ _ _, pa_i64 _ _ _⟩
          have tX : X.t.size ≤ 10000000 := by rw [hX]; dsimp only; (show 0 ≤ _; omega)
          have sX : stepX k W.tail = X := by rw [hX]; exact stepX_eq k W _ (by rw [htx, List.length_tail]; rw [if_neg (by rintro ⟨h1, h2⟩; first | (exact absurd h1 (by decide)) | omega)])
          have hF := stepF_hit (s := s.data.toList) (k := k) (X := X) (by rw [← hW]; exact hFk) (by rw [← hW]; omega) (by rw [← hW]; exact sX)
          replace A_g7 : Kw.At w25 g7 (stpCells X) 30 := by rw [hX]; exact A_g7
          refine Kw.WC_sched (fun ww => Kw.At ww g7 (stpCells X) 30 ∧ True) [(0, true), (1, true), (3, true), (4, true), (2, false), (5, true), (6, false), (7, true)] [some 72, some 73, some 74, some 75, some 76, some 77, none, some 3] rfl (by kernel_rfl) rfl (by kernel_rfl) ?_
          obtain ⟨w43, hww43⟩ : ∃ x : World, x = Go.World.drew w25 := ⟨_, rfl⟩
          rw [← hww43]
          replace A_g2 : Kw.At w43 g2 F.Z30 30 := by rw [hww43]; exact A_g2
          replace A_gS : Kw.At w43 gS ((wsV W).toArray) 9 := by rw [hww43]; exact A_gS
          replace A_gu : Kw.At w43 gu #[.string (bA (wordL k)), .int .i64 (numsN k : Int), .bool false] 59 := by rw [hww43]; exact A_gu
          replace A_g7 : Kw.At w43 g7 (stpCells X) 30 := by rw [hww43]; exact A_g7
          replace A_g32 : Kw.At w43 g32 #[.pointer (some ⟨g7, 1, none⟩), .pointer (some ⟨g7, 2, none⟩), .pointer (some ⟨g7, 3, none⟩)] 69 := by rw [hww43]; exact A_g32
          replace HB : Below w.heap.size w w43 := by rw [hww43]; exact HB.drew
          clear hww43
          have hS : Kw.At w43 g7 (stpCells X) 30 ∧ True := ⟨A_g7, trivial⟩
          refine Kw.WX_take rfl rfl rfl rfl (fun _ _ _ h => h) hS (fun _ ⟨A_g7, _⟩ => Kw.R_loadW rfl Tryd.underlying30 rfl (by exact F.sz30) A_g7) ?_
          refine Kw.WX_take rfl rfl rfl rfl (fun _ _ _ h => h) hS (fun _ ⟨A_g7, _⟩ => Kw.R_loadW rfl Tryd.underlying30 rfl (by exact F.sz30) A_g7) ?_
          refine Kw.WX_take rfl rfl rfl rfl (fun _ _ _ h => h) hS (fun _ ⟨A_g7, _⟩ => Kw.R_move rfl) ?_
          refine Kw.WX_take rfl rfl rfl rfl (fun _ _ _ h => h) hS (fun _ ⟨A_g7, _⟩ => Kw.R_adds (r := (bA (s.data.toList ++ [10]))) rfl rfl (by show _ + 1 ≤ _; omega) (s_nl s)) ?_
          refine Kw.WX_callc rfl rfl rfl rfl rfl F.cl15 rfl (line_c X oX tX w43 (GG.below HB)) ?_; intro w44 bw44
          clear hS
          replace A_g2 := A_g2.call bw44
          replace A_gS := A_gS.call bw44
          replace A_gu := A_gu.call bw44
          replace A_g7 := A_g7.call bw44
          replace A_g32 := A_g32.call bw44
          replace HB := Kw.Below.then HB (Nat.le_refl _) bw44
          have hS : Kw.At w44 g7 (stpCells X) 30 ∧ True := ⟨A_g7, trivial⟩
          clear bw44
          refine ⟨hS, ?_⟩
          obtain ⟨zz, hzz⟩ : ∃ z : Bool, decide ((bA (lineL X)) = (bA (s.data.toList ++ [10]))) = z := ⟨_, rfl⟩
          refine Kw.WX_take rfl rfl rfl rfl (fun _ _ _ h => h) hS (fun _ ⟨A_g7, _⟩ => Kw.R_eqs rfl rfl hzz) ?_
          refine WX_storeW rfl rfl rfl rfl (by exact F.sz30) A_g2 rfl rfl ?_; intro w45 M_g2
          replace A_gS := M_g2.keep A_gS (Nat.ne_of_gt L_g2_gS)
          replace A_gu := M_g2.keep A_gu (Nat.ne_of_gt L_g2_gu)
          replace A_g7 := M_g2.keep A_g7 (Nat.ne_of_gt L_g2_g7)
          replace A_g32 := M_g2.keep A_g32 (Nat.ne_of_gt L_g2_g32)
          replace A_g2 : Kw.At w45 g2 (stpCells X) 30 := M_g2.at_ A_g2
          replace HB := M_g2.below HB G_g2; clear M_g2
          clear hS; have hS : Kw.At w45 g7 (stpCells X) 30 ∧ True := ⟨A_g7, trivial⟩
          refine ⟨hS, ?_⟩
          refine Kw.WX_take rfl rfl rfl rfl (fun _ _ _ h => h) hS (fun _ ⟨A_g7, _⟩ => Kw.R_assign rfl) ?_
          refine Kw.WX_nil ?_
          clear hS
          refine hK42 _ _ ?_; clear hK42 K42
          refine Kw.WC_sub (l' := [(2, .pointer (some ⟨g2, 0, none⟩)), (3, .bool zz)]) (Kw.Sub.cons rfl (Kw.Sub.cons rfl Kw.Sub.nil)) ?_
          refine Kw.WC_ret ?_
          refine Kw.QR_block ?_
          refine Kw.QR_then ?_; clear hK11 K11
          refine Kw.QR_then ?_
          refine Kw.QR_block ?_
          refine Kw.QR_then ?_; clear hK5 K5
          exact Kw.post_ret2 rfl (Kw.RV_row rfl Tryd.underlying30 rfl (by exact F.sz30) A_g2) rfl ⟨by rw [hF, dec_bA hzz], HB⟩
        ·
          refine Kw.WL_v rfl rfl rfl (Kw.R_load1 (v := .bool true) rfl Tryd.underlying4 rfl A_gu rfl) ?_
          refine Kw.WL_v rfl rfl rfl (Kw.R_move rfl) ?_
          refine Kw.WL_v rfl rfl rfl (Kw.R_move rfl) ?_
          refine Kw.WL_v rfl rfl rfl (Kw.R_lenl Tryd.underlying61 rfl) ?_
          by_cases c46 : (0 : Int) < (m : Int)
          ·
            refine Kw.WL_v rfl rfl rfl (Kw.R_gtr (z := true) rfl rfl (decide_eq_true c46)) ?_
            refine Kw.WL_v rfl rfl rfl (Kw.R_pickt rfl rfl) ?_
            refine Kw.WL_nil ?_
            refine hK41 _ _ ?_; clear hK41 K41
            refine Kw.WC_sub (l' := [(0, .string s), (2, .pointer (some ⟨g2, 0, none⟩)), (4, .slice (some ⟨gS, oo, none⟩) m m), (7, .pointer (some ⟨g7, 0, none⟩)), (63, .bool true)]) (Kw.Sub.cons rfl (Kw.Sub.cons rfl (Kw.Sub.cons rfl (Kw.Sub.cons rfl (Kw.Sub.cons rfl Kw.Sub.nil))))) ?_
            refine Kw.WC_true rfl ?_
            refine Kw.WC_region [some 65, some 66, some 67, some 68, some 64, some 69, some 70, some 71, none] rfl ?_
            refine Kw.WL_v rfl rfl rfl (Kw.R_move rfl) ?_
            refine Kw.WL_v rfl rfl rfl (Kw.R_indexAddrS (i := 0) (o' := oo + 0) rfl rfl Tryd.underlying61 F.sz9 (by omega) (by omega)) ?_
            refine Kw.WL_v rfl rfl rfl (Kw.R_load1 (v := .string (bA (W.getD (1 + numsN k) []))) rfl Tryd.underlying9 rfl A_gS (by rw [hoo (by omega)]; exact wsV_at (by omega))) ?_
            refine Kw.WL_call rfl rfl rfl rfl F.cl28 rfl (unhex_w (W.getD (1 + numsN k) []) (Nat.le_trans (getD_le hWw _) (by omega)) w25) ?_; rintro _ w47 ⟨⟨ez, rfl⟩, bw47⟩
            replace A_g2 := A_g2.call bw47
            replace A_gS := A_gS.call bw47
            replace A_gu := A_gu.call bw47
            replace A_g7 := A_g7.call bw47
            replace A_g32 := A_g32.call bw47
            replace HB := Kw.Below.then HB (Nat.le_refl _) bw47
            clear bw47
            refine Kw.WL_v rfl rfl rfl (Kw.R_move rfl) ?_
            refine Kw.WL_v rfl rfl rfl (Kw.R_extract (v := .string (bA (unhexL (W.getD (1 + numsN k) []).tail))) rfl rfl) ?_
            refine Kw.WL_v rfl rfl rfl (Kw.R_extract (v := .bool ez) rfl rfl) ?_
            refine Kw.WL_v rfl rfl rfl (Kw.R_fieldAddr (o' := 4) (k := 0) rfl Tryd.underlying30 rfl F.sz9 rfl) ?_
            refine Kw.WL_store1 (ds := #[.int .i64 (k : Int), .int .i64 (pa W (numsN k) 0), .int .i64 (pa W (numsN k) 1), .int .i64 (pa W (numsN k) 2), .string (bA (unhexL (W.getD (1 + numsN k) []).tail))]) rfl rfl rfl F.sz9 A_g7 (by show 4 < 5; decide) rfl rfl (rfl) ?_; intro w48 M_g7
            replace A_g2 := M_g7.keep A_g2 (Nat.ne_of_lt L_g2_g7)
            replace A_gS := M_g7.keep A_gS (Nat.ne_of_lt L_gS_g7)
            replace A_gu := M_g7.keep A_gu (Nat.ne_of_lt L_gu_g7)
            replace A_g32 := M_g7.keep A_g32 (Nat.ne_of_gt L_g7_g32)
            replace A_g7 : Kw.At w48 g7 #[.int .i64 (k : Int), .int .i64 (pa W (numsN k) 0), .int .i64 (pa W (numsN k) 1), .int .i64 (pa W (numsN k) 2), .string (bA (unhexL (W.getD (1 + numsN k) []).tail))] 30 := M_g7.at_ A_g7
            replace HB := M_g7.below HB G_g7; clear M_g7
            refine Kw.WL_nil ?_
            refine hK40 _ _ ?_; clear hK40 K40
            refine Kw.WC_sub (l' := [(0, .string s), (2, .pointer (some ⟨g2, 0, none⟩)), (7, .pointer (some ⟨g7, 0, none⟩))]) (Kw.Sub.cons rfl (Kw.Sub.cons rfl (Kw.Sub.cons rfl Kw.Sub.nil))) ?_
            refine Kw.WC_seq (fun K49 hK49 => ?_)
            obtain ⟨X, hX⟩ : ∃ X : Stp, X = ⟨(k : Int), pa W (numsN k) 0, pa W (numsN k) 1, pa W (numsN k) 2, (bA (unhexL (W.getD (1 + numsN k) []).tail))⟩ := ⟨_, rfl⟩
            have oX : okS X := by rw [hX]; exact ⟨by unfold i64; dsimp only; omega, pa_i64 _ _ _, pa_i64 _ _ _, pa_i64 _ _ _⟩
            have tX : X.t.size ≤ 10000000 := by rw [hX]; dsimp only; rw [bA_size, unhexL_len, List.length_tail]; have := getD_le hWw (1 + numsN k); omega
            have sX : stepX k W.tail = X := by rw [hX]; exact stepX_eq k W _ (by rw [htx, List.length_tail]; rw [if_pos ⟨rfl, by omega⟩])
            have hF := stepF_hit (s := s.data.toList) (k := k) (X := X) (by rw [← hW]; exact hFk) (by rw [← hW]; omega) (by rw [← hW]; exact sX)
            replace A_g7 : Kw.At w48 g7 (stpCells X) 30 := by rw [hX]; exact A_g7
            refine Kw.WC_sched (fun ww => Kw.At ww g7 (stpCells X) 30 ∧ True) [(0, true), (1, true), (3, true), (4, true), (2, false), (5, true), (6, false), (7, true)] [some 72, some 73, some 74, some 75, some 76, some 77, none, some 3] rfl (by kernel_rfl) rfl (by kernel_rfl) ?_
            obtain ⟨w50, hww50⟩ : ∃ x : World, x = Go.World.drew w48 := ⟨_, rfl⟩
            rw [← hww50]
            replace A_g2 : Kw.At w50 g2 F.Z30 30 := by rw [hww50]; exact A_g2
            replace A_gS : Kw.At w50 gS ((wsV W).toArray) 9 := by rw [hww50]; exact A_gS
            replace A_gu : Kw.At w50 gu #[.string (bA (wordL k)), .int .i64 (numsN k : Int), .bool true] 59 := by rw [hww50]; exact A_gu
            replace A_g7 : Kw.At w50 g7 (stpCells X) 30 := by rw [hww50]; exact A_g7
            replace A_g32 : Kw.At w50 g32 #[.pointer (some ⟨g7, 1, none⟩), .pointer (some ⟨g7, 2, none⟩), .pointer (some ⟨g7, 3, none⟩)] 69 := by rw [hww50]; exact A_g32
            replace HB : Below w.heap.size w w50 := by rw [hww50]; exact HB.drew
            clear hww50
            have hS : Kw.At w50 g7 (stpCells X) 30 ∧ True := ⟨A_g7, trivial⟩
            refine Kw.WX_take rfl rfl rfl rfl (fun _ _ _ h => h) hS (fun _ ⟨A_g7, _⟩ => Kw.R_loadW rfl Tryd.underlying30 rfl (by exact F.sz30) A_g7) ?_
            refine Kw.WX_take rfl rfl rfl rfl (fun _ _ _ h => h) hS (fun _ ⟨A_g7, _⟩ => Kw.R_loadW rfl Tryd.underlying30 rfl (by exact F.sz30) A_g7) ?_
            refine Kw.WX_take rfl rfl rfl rfl (fun _ _ _ h => h) hS (fun _ ⟨A_g7, _⟩ => Kw.R_move rfl) ?_
            refine Kw.WX_take rfl rfl rfl rfl (fun _ _ _ h => h) hS (fun _ ⟨A_g7, _⟩ => Kw.R_adds (r := (bA (s.data.toList ++ [10]))) rfl rfl (by show _ + 1 ≤ _; omega) (s_nl s)) ?_
            refine Kw.WX_callc rfl rfl rfl rfl rfl F.cl15 rfl (line_c X oX tX w50 (GG.below HB)) ?_; intro w51 bw51
            clear hS
            replace A_g2 := A_g2.call bw51
            replace A_gS := A_gS.call bw51
            replace A_gu := A_gu.call bw51
            replace A_g7 := A_g7.call bw51
            replace A_g32 := A_g32.call bw51
            replace HB := Kw.Below.then HB (Nat.le_refl _) bw51
            have hS : Kw.At w51 g7 (stpCells X) 30 ∧ True := ⟨A_g7, trivial⟩
            clear bw51
            refine ⟨hS, ?_⟩
            obtain ⟨zz, hzz⟩ : ∃ z : Bool, decide ((bA (lineL X)) = (bA (s.data.toList ++ [10]))) = z := ⟨_, rfl⟩
            refine Kw.WX_take rfl rfl rfl rfl (fun _ _ _ h => h) hS (fun _ ⟨A_g7, _⟩ => Kw.R_eqs rfl rfl hzz) ?_
            refine WX_storeW rfl rfl rfl rfl (by exact F.sz30) A_g2 rfl rfl ?_; intro w52 M_g2
            replace A_gS := M_g2.keep A_gS (Nat.ne_of_gt L_g2_gS)
            replace A_gu := M_g2.keep A_gu (Nat.ne_of_gt L_g2_gu)
            replace A_g7 := M_g2.keep A_g7 (Nat.ne_of_gt L_g2_g7)
            replace A_g32 := M_g2.keep A_g32 (Nat.ne_of_gt L_g2_g32)
            replace A_g2 : Kw.At w52 g2 (stpCells X) 30 := M_g2.at_ A_g2
            replace HB := M_g2.below HB G_g2; clear M_g2
            clear hS; have hS : Kw.At w52 g7 (stpCells X) 30 ∧ True := ⟨A_g7, trivial⟩
            refine ⟨hS, ?_⟩
            refine Kw.WX_take rfl rfl rfl rfl (fun _ _ _ h => h) hS (fun _ ⟨A_g7, _⟩ => Kw.R_assign rfl) ?_
            refine Kw.WX_nil ?_
            clear hS
            refine hK49 _ _ ?_; clear hK49 K49
            refine Kw.WC_sub (l' := [(2, .pointer (some ⟨g2, 0, none⟩)), (3, .bool zz)]) (Kw.Sub.cons rfl (Kw.Sub.cons rfl Kw.Sub.nil)) ?_
            refine Kw.WC_ret ?_
            refine Kw.QR_block ?_
            refine Kw.QR_then ?_; clear hK11 K11
            refine Kw.QR_then ?_
            refine Kw.QR_block ?_
            refine Kw.QR_then ?_; clear hK5 K5
            exact Kw.post_ret2 rfl (Kw.RV_row rfl Tryd.underlying30 rfl (by exact F.sz30) A_g2) rfl ⟨by rw [hF, dec_bA hzz], HB⟩
          ·
            refine Kw.WL_v rfl rfl rfl (Kw.R_gtr (z := false) rfl rfl (decide_eq_false c46)) ?_
            refine Kw.WL_v rfl rfl rfl (Kw.R_pickt rfl rfl) ?_
            refine Kw.WL_nil ?_
            refine hK41 _ _ ?_; clear hK41 K41
            refine Kw.WC_sub (l' := [(0, .string s), (2, .pointer (some ⟨g2, 0, none⟩)), (4, .slice (some ⟨gS, oo, none⟩) m m), (7, .pointer (some ⟨g7, 0, none⟩)), (63, .bool false)]) (Kw.Sub.cons rfl (Kw.Sub.cons rfl (Kw.Sub.cons rfl (Kw.Sub.cons rfl (Kw.Sub.cons rfl Kw.Sub.nil))))) ?_
            refine Kw.WC_false rfl ?_
            refine Kw.WC_skip ?_
            refine hK40 _ _ ?_; clear hK40 K40
            refine Kw.WC_seq (fun K53 hK53 => ?_)
            obtain ⟨X, hX⟩ : ∃ X : Stp, X = ⟨(k : Int), pa W (numsN k) 0, pa W (numsN k) 1, pa W (numsN k) 2, ⟨#[]⟩⟩ := ⟨_, rfl⟩
            have oX : okS X := by rw [hX]; exact ⟨by unfold i64; dsimp only; omega, pa_i64 _ _ _, pa_i64 _ _ _, pa_i64 _ _ _⟩
            have tX : X.t.size ≤ 10000000 := by rw [hX]; dsimp only; (show 0 ≤ _; omega)
            have sX : stepX k W.tail = X := by rw [hX]; exact stepX_eq k W _ (by rw [htx, List.length_tail]; rw [if_neg (by rintro ⟨h1, h2⟩; first | (exact absurd h1 (by decide)) | omega)])
            have hF := stepF_hit (s := s.data.toList) (k := k) (X := X) (by rw [← hW]; exact hFk) (by rw [← hW]; omega) (by rw [← hW]; exact sX)
            replace A_g7 : Kw.At w25 g7 (stpCells X) 30 := by rw [hX]; exact A_g7
            refine Kw.WC_sched (fun ww => Kw.At ww g7 (stpCells X) 30 ∧ True) [(0, true), (1, true), (3, true), (4, true), (2, false), (5, true), (6, false), (7, true)] [some 72, some 73, some 74, some 75, some 76, some 77, none, some 3] rfl (by kernel_rfl) rfl (by kernel_rfl) ?_
            obtain ⟨w54, hww54⟩ : ∃ x : World, x = Go.World.drew w25 := ⟨_, rfl⟩
            rw [← hww54]
            replace A_g2 : Kw.At w54 g2 F.Z30 30 := by rw [hww54]; exact A_g2
            replace A_gS : Kw.At w54 gS ((wsV W).toArray) 9 := by rw [hww54]; exact A_gS
            replace A_gu : Kw.At w54 gu #[.string (bA (wordL k)), .int .i64 (numsN k : Int), .bool true] 59 := by rw [hww54]; exact A_gu
            replace A_g7 : Kw.At w54 g7 (stpCells X) 30 := by rw [hww54]; exact A_g7
            replace A_g32 : Kw.At w54 g32 #[.pointer (some ⟨g7, 1, none⟩), .pointer (some ⟨g7, 2, none⟩), .pointer (some ⟨g7, 3, none⟩)] 69 := by rw [hww54]; exact A_g32
            replace HB : Below w.heap.size w w54 := by rw [hww54]; exact HB.drew
            clear hww54
            have hS : Kw.At w54 g7 (stpCells X) 30 ∧ True := ⟨A_g7, trivial⟩
            refine Kw.WX_take rfl rfl rfl rfl (fun _ _ _ h => h) hS (fun _ ⟨A_g7, _⟩ => Kw.R_loadW rfl Tryd.underlying30 rfl (by exact F.sz30) A_g7) ?_
            refine Kw.WX_take rfl rfl rfl rfl (fun _ _ _ h => h) hS (fun _ ⟨A_g7, _⟩ => Kw.R_loadW rfl Tryd.underlying30 rfl (by exact F.sz30) A_g7) ?_
            refine Kw.WX_take rfl rfl rfl rfl (fun _ _ _ h => h) hS (fun _ ⟨A_g7, _⟩ => Kw.R_move rfl) ?_
            refine Kw.WX_take rfl rfl rfl rfl (fun _ _ _ h => h) hS (fun _ ⟨A_g7, _⟩ => Kw.R_adds (r := (bA (s.data.toList ++ [10]))) rfl rfl (by show _ + 1 ≤ _; omega) (s_nl s)) ?_
            refine Kw.WX_callc rfl rfl rfl rfl rfl F.cl15 rfl (line_c X oX tX w54 (GG.below HB)) ?_; intro w55 bw55
            clear hS
            replace A_g2 := A_g2.call bw55
            replace A_gS := A_gS.call bw55
            replace A_gu := A_gu.call bw55
            replace A_g7 := A_g7.call bw55
            replace A_g32 := A_g32.call bw55
            replace HB := Kw.Below.then HB (Nat.le_refl _) bw55
            have hS : Kw.At w55 g7 (stpCells X) 30 ∧ True := ⟨A_g7, trivial⟩
            clear bw55
            refine ⟨hS, ?_⟩
            obtain ⟨zz, hzz⟩ : ∃ z : Bool, decide ((bA (lineL X)) = (bA (s.data.toList ++ [10]))) = z := ⟨_, rfl⟩
            refine Kw.WX_take rfl rfl rfl rfl (fun _ _ _ h => h) hS (fun _ ⟨A_g7, _⟩ => Kw.R_eqs rfl rfl hzz) ?_
            refine WX_storeW rfl rfl rfl rfl (by exact F.sz30) A_g2 rfl rfl ?_; intro w56 M_g2
            replace A_gS := M_g2.keep A_gS (Nat.ne_of_gt L_g2_gS)
            replace A_gu := M_g2.keep A_gu (Nat.ne_of_gt L_g2_gu)
            replace A_g7 := M_g2.keep A_g7 (Nat.ne_of_gt L_g2_g7)
            replace A_g32 := M_g2.keep A_g32 (Nat.ne_of_gt L_g2_g32)
            replace A_g2 : Kw.At w56 g2 (stpCells X) 30 := M_g2.at_ A_g2
            replace HB := M_g2.below HB G_g2; clear M_g2
            clear hS; have hS : Kw.At w56 g7 (stpCells X) 30 ∧ True := ⟨A_g7, trivial⟩
            refine ⟨hS, ?_⟩
            refine Kw.WX_take rfl rfl rfl rfl (fun _ _ _ h => h) hS (fun _ ⟨A_g7, _⟩ => Kw.R_assign rfl) ?_
            refine Kw.WX_nil ?_
            clear hS
            refine hK53 _ _ ?_; clear hK53 K53
            refine Kw.WC_sub (l' := [(2, .pointer (some ⟨g2, 0, none⟩)), (3, .bool zz)]) (Kw.Sub.cons rfl (Kw.Sub.cons rfl Kw.Sub.nil)) ?_
            refine Kw.WC_ret ?_
            refine Kw.QR_block ?_
            refine Kw.QR_then ?_; clear hK11 K11
            refine Kw.QR_then ?_
            refine Kw.QR_block ?_
            refine Kw.QR_then ?_; clear hK5 K5
            exact Kw.post_ret2 rfl (Kw.RV_row rfl Tryd.underlying30 rfl (by exact F.sz30) A_g2) rfl ⟨by rw [hF, dec_bA hzz], HB⟩
    ·
      refine Kw.WX_take rfl rfl rfl rfl (fun _ _ _ h => h) hS (fun _ ⟨A_g7, _⟩ => Kw.R_nes (z := true) rfl rfl (decide_eq_false cw)) ?_
      have hne : wordL k ≠ W.getD 0 [] := fun e => cw (congrArg bA e)
      refine Kw.WX_nil ?_
      clear hS
      refine hK16 _ _ ?_; clear hK16 K16
      refine Kw.WC_sub (l' := [(0, .string s), (2, .pointer (some ⟨g2, 0, none⟩)), (4, .slice (some ⟨gS, 0, none⟩) W.length W.length), (5, .int .i64 (k : Int)), (6, .pointer (some ⟨gu, 0, none⟩)), (24, .bool true)]) (Kw.Sub.cons rfl (Kw.Sub.cons rfl (Kw.Sub.cons rfl (Kw.Sub.cons rfl (Kw.Sub.cons rfl (Kw.Sub.cons rfl Kw.Sub.nil)))))) ?_
      refine Kw.WC_true rfl ?_
      refine Kw.WC_exit ?_
      refine Kw.QE_then ?_; clear hK15 K15
      refine Kw.QE_here ?_
      refine hK11 _ _ ?_; clear hK11 K11
      refine Kw.WC_region [some 14, some 15, some 5] rfl ?_
      refine Kw.WL_v rfl rfl rfl (Kw.R_move rfl) ?_
      refine Kw.WL_v rfl rfl rfl (Kw.R_add (c := ((k + 1 : Nat) : Int)) rfl rfl (by rw [Kw.wrap_i64 (by omega)]; omega)) ?_
      refine Kw.WL_v rfl rfl rfl (Kw.R_assign rfl) ?_
      refine Kw.WL_nil ?_
      refine Kw.QN_round (k + 1) ⟨⟨by omega, by omega, by rw [hinv]; exact findK_step (by omega) hne⟩, A_g2, A_gS, HB⟩ (by omega) (Kw.Sub.cons rfl (Kw.Sub.cons rfl (Kw.Sub.cons rfl (Kw.Sub.cons rfl Kw.Sub.nil))))
  ·
    refine Kw.WL_v rfl rfl rfl (Kw.R_leq (z := false) rfl rfl (decide_eq_false c10)) ?_
    obtain rfl : k = 14 := by omega
    have hF := stepF_none (s := s.data.toList) (by rw [← hW, hinv]; rfl)
    refine Kw.WL_nil ?_
    refine hK9 _ _ ?_; clear hK9 K9
    refine Kw.WC_false rfl ?_
    refine Kw.WC_exit ?_
    refine Kw.QE_then ?_; clear hK8 K8
    refine Kw.QE_then ?_
    refine Kw.QE_here ?_
    refine hK5 _ _ ?_; clear hK5 K5
    refine Kw.WC_seq (fun K57 hK57 => ?_)
    refine Kw.WC_region [some 78, none, some 3] rfl ?_
    refine Kw.WL_v rfl rfl rfl (F.R_bz30) ?_
    refine Kw.WL_storeW rfl rfl rfl (by exact F.sz30) A_g2 rfl rfl ?_; intro w58 M_g2
    replace A_gS := M_g2.keep A_gS (Nat.ne_of_gt L_g2_gS)
    replace A_g2 : Kw.At w58 g2 F.Z30 30 := M_g2.at_ A_g2
    replace HB := M_g2.below HB G_g2; clear M_g2
    refine Kw.WL_v rfl rfl rfl (Kw.R_assign rfl) ?_
    refine Kw.WL_nil ?_
    refine hK57 _ _ ?_; clear hK57 K57
    refine Kw.WC_sub (l' := [(2, .pointer (some ⟨g2, 0, none⟩)), (3, .bool false)]) (Kw.Sub.cons rfl (Kw.Sub.cons rfl Kw.Sub.nil)) ?_
    refine Kw.WC_ret ?_
    exact Kw.post_ret2 rfl (Kw.RV_row rfl Tryd.underlying30 rfl (by exact F.sz30) A_g2) rfl ⟨by rw [hF]; rfl, HB⟩
end Go.Proofs.YtpggmnomcahijaaDoor.Fn
