/- ShaBack answers true. -/
import Derived.Test.YtngkedoaijlnlaaDoorWalkHex
namespace Go.Proofs.YtngkedoaijlnlaaDoor.Fn
open Go Go.Proofs Go.RowKit Go.Proofs.YtngkedoaijlnlaaDoorW.PrintWords Go.Proofs.YtngkedoaijlnlaaDoorW.PrintLast Go.Proofs.YtngkedoaijlnlaaDoorW.PrintMore
set_option linter.unusedVariables false
set_option linter.unusedSimpArgs false
theorem R_bh {l : Kw.Env} {w : World} {D : Option Tmp} {T : TypeId} {S : String} {F : Array Edge} {g : Option (Nat × Bool)} : Kw.Runs Tryd.prog l ⟨D, .build 24 #[], T, S, F, g⟩ w (.agg (cells8 zeros32)) w := by
  rw [← Z24_eq]; exact Go.Proofs.YtngkedoaijlnlaaDoor.F.R_bz24
theorem parse_T (h : List Int) (hl : h.length = 32) (hn : Bytes h) (w : World) : Calls Tryd.prog 13 #[.string (hexS h)] w fun e w' => e = .returned (.tuple #[.agg (cells8 h), .bool true]) ∧ Below w.heap.size w w' := by
  have k := parse_c (hexS h) w
  rw [parse_hex h hl hn, Option.getD_some, Option.isSome_some] at k
  exact k
theorem parse_N (s : ByteArray) (h : parseV s = none) (w : World) : Calls Tryd.prog 13 #[.string s] w fun e w' => e = .returned (.tuple #[.agg (cells8 zeros32), .bool false]) ∧ Below w.heap.size w w' := by
  have k := parse_c s w
  rw [h, Option.getD_none, Option.isSome_none] at k
  exact k
theorem parse_S (s : ByteArray) (b : List Int) (h : parseV s = some b) (w : World) : Calls Tryd.prog 13 #[.string s] w fun e w' => e = .returned (.tuple #[.agg (cells8 b), .bool true]) ∧ Below w.heap.size w w' := by
  have k := parse_c s w
  rw [h, Option.getD_some, Option.isSome_some] at k
  exact k
theorem hex_S (s : ByteArray) (b : List Int) (h : parseV s = some b) (w : World) : Calls Tryd.prog 15 #[.agg (cells8 b)] w fun e w' => e = .returned (.string s) ∧ Below w.heap.size w w' := by
  have p := parse_back s b h
  have k := hex_c b p.2.1 p.2.2 w
  rw [p.1] at k
  exact k
theorem odd_cases (h : List Int) (hl : h.length = 32) (hn : Bytes h) (k : Nat) (hk : k < 64) (x : Int) (r : 0 ≤ x ∧ x < 256) :
    (parseV (putU (hexS h) k x) = none ∧ digit x < 0) ∨ ∃ c, parseV (putU (hexS h) k x) = some c ∧ 0 ≤ digit x ∧ c.length = 32 ∧ Bytes c ∧ (putU (hexS h) k x = hexS h ↔ c = h) := by
  rcases (by omega : digit x < 0 ∨ 0 ≤ digit x) with hd | hd
  · exact .inl ⟨odd_no _ (hexS_size h) k hk x r hd, hd⟩
  · obtain ⟨c, hc⟩ := odd_yes (hexS h) (hexS_size h) (fun i hi => hexS_all h hn i hi) k hk x r hd
    have p := parse_back _ c hc
    refine .inr ⟨c, hc, hd, p.2.1, p.2.2, fun e => ?_, fun e => ?_⟩
    · rw [e, parse_hex h hl hn] at hc; exact (Option.some.inj hc).symm
    · rw [← p.1, e]
theorem digit_not_lo {x : Int} (hd : 0 ≤ digit x) (h : ¬ 48 ≤ x) : False := by have := digit_lo (x := x) (by omega); omega
theorem digit_not_mid {x : Int} (hd : 0 ≤ digit x) (h : ¬ x ≤ 57) (h2 : ¬ 97 ≤ x) : False := by have := digit_mid (x := x) (by omega) (by omega); omega
theorem digit_not_hi {x : Int} (hd : 0 ≤ digit x) (h : ¬ x ≤ 102) : False := by have := digit_hi (x := x) (by omega); omega
theorem digit_is_num {x : Int} (hd : digit x < 0) (h : 48 ≤ x) (h2 : x ≤ 57) : False := by have := digit_num h h2; omega
theorem digit_is_let {x : Int} (hd : digit x < 0) (h : 97 ≤ x) (h2 : x ≤ 102) : False := by have := digit_let h h2; omega

set_option maxRecDepth 100000 in
set_option maxHeartbeats 4000000 in
theorem ShaBack_S (h : List Int) (hl : h.length = 32) (hn : Bytes h) (s : ByteArray) (b : List Int) (his : parseV s = some b) (a0 a1 : Int) (r0 : 0 ≤ a0 ∧ a0 < 256) (r1 : 0 ≤ a1 ∧ a1 < 256) (w : World) (h0 : Tab w 0 H8) (h1 : Tab w 1 K64) :
    Calls Tryd.prog 5 #[.agg (cells8 h), .string s, .agg (cells8 [a0, a1])] w fun e w' => e = .returned (.bool true) ∧ Below w.heap.size w w' := by
  have HB : Below w.heap.size w w := Below.refl _ _
  have Ha : ∀ (w' : World), Below w.heap.size w w' → Calls Tryd.prog 10 #[] w' fun e w2 => e = .returned (.bool true) ∧ Below w'.heap.size w' w2 := fun w' b => hashed_c w' (tab_below h0 b) (tab_below h1 b)
  clear h0 h1
  have lb := (parse_back s b his).2.1
  refine Kw.enter Tryd.func5 rfl Tryd.ntmps5 rfl rfl ?_
  refine Kw.WC_seq (fun K1 hK1 => ?_)
  refine Kw.WC_region [some 3, some 5, some 6] rfl ?_
  refine Kw.WL_box rfl rfl rfl ?_; intro g3 w2 N_g3
  have A_g3 : Kw.At w2 g3 (cells8 h) 24 := N_g3.at_
  have G_g3 := N_g3.ge HB (Nat.le_refl _); replace HB := N_g3.below HB (Nat.le_refl _); clear N_g3
  refine Kw.WL_box rfl rfl rfl ?_; intro g5 w3 N_g5
  have L_g3_g5 := N_g5.ne A_g3; replace A_g3 := N_g5.keep A_g3
  have A_g5 : Kw.At w3 g5 #[.int .u8 a0, .int .u8 a1] 31 := N_g5.at_
  have G_g5 := N_g5.ge HB (Nat.le_refl _); replace HB := N_g5.below HB (Nat.le_refl _); clear N_g5
  refine Kw.WL_v rfl rfl rfl (Kw.R_assign rfl) ?_
  refine Kw.WL_nil ?_
  refine hK1 _ _ ?_; clear hK1 K1
  refine Kw.WC_seq (fun K4 hK4 => ?_)
  refine Kw.WC_seq (fun K5 hK5 => ?_)
  refine Kw.WC_region [some 17, some 18, some 19] rfl ?_
  refine Kw.WL_v rfl rfl rfl (Kw.R_move rfl) ?_
  refine Kw.WL_v rfl rfl rfl (Kw.R_lens Tryd.underlying9 rfl) ?_
  by_cases c6 : (100 : Int) < (s.size : Int)
  ·
    refine Kw.WL_v rfl rfl rfl (Kw.R_gtr (z := true) rfl rfl (decide_eq_true c6)) ?_
    refine Kw.WL_nil ?_
    refine hK5 _ _ ?_; clear hK5 K5
    refine Kw.WC_true rfl ?_
    refine Kw.WC_seq (fun K7 hK7 => ?_)
    refine Kw.WC_region [some 20, some 6] rfl ?_
    refine Kw.WL_callc rfl rfl rfl rfl F.cl10 rfl (Ha _ HB) ?_; intro w8 bw8
    replace A_g3 := A_g3.call bw8
    replace A_g5 := A_g5.call bw8
    replace HB := Kw.Below.then HB (Nat.le_refl _) bw8
    clear bw8
    refine Kw.WL_v rfl rfl rfl (Kw.R_assign rfl) ?_
    refine Kw.WL_nil ?_
    refine hK7 _ _ ?_; clear hK7 K7
    refine Kw.WC_sub (l' := [(6, .bool true)]) (Kw.Sub.cons rfl Kw.Sub.nil) ?_
    refine Kw.WC_ret ?_
    refine Kw.QR_then ?_; clear hK4 K4
    exact Kw.post_ret1 rfl rfl ⟨rfl, HB⟩
  ·
    refine Kw.WL_v rfl rfl rfl (Kw.R_gtr (z := false) rfl rfl (decide_eq_false c6)) ?_
    refine Kw.WL_nil ?_
    refine hK5 _ _ ?_; clear hK5 K5
    refine Kw.WC_false rfl ?_
    refine Kw.WC_skip ?_
    refine hK4 _ _ ?_; clear hK4 K4
    refine Kw.WC_sub (l' := [(1, .string s), (3, .pointer (some ⟨g3, 0, none⟩)), (5, .pointer (some ⟨g5, 0, none⟩))]) (Kw.Sub.cons rfl (Kw.Sub.cons rfl (Kw.Sub.cons rfl Kw.Sub.nil))) ?_
    refine Kw.WC_seq (fun K9 hK9 => ?_)
    refine Kw.WC_region [some 21, some 22, some 7] rfl ?_
    refine Kw.WL_v rfl rfl rfl (Kw.R_loadW rfl Tryd.underlying24 rfl (by rw [cells8_size]; first | (rw [hl]; exact F.sz24) | (rw [parse_length]; exact F.sz24) | (rw [lb]; exact F.sz24) | (rw [lc]; exact F.sz24) | exact F.sz24) A_g3) ?_
    refine Kw.WL_callc rfl rfl rfl rfl F.cl15 rfl (hex_c h hl hn _) ?_; intro w10 bw10
    replace A_g3 := A_g3.call bw10
    replace A_g5 := A_g5.call bw10
    replace HB := Kw.Below.then HB (Nat.le_refl _) bw10
    clear bw10
    refine Kw.WL_v rfl rfl rfl (Kw.R_assign rfl) ?_
    refine Kw.WL_nil ?_
    refine hK9 _ _ ?_; clear hK9 K9
    refine Kw.WC_seq (fun K11 hK11 => ?_)
    refine Kw.WC_region [some 24, some 25, some 23, some 26, some 27, some 8, none, some 9] rfl ?_
    refine Kw.WL_v rfl rfl rfl (Kw.R_move rfl) ?_
    refine Kw.WL_callc rfl rfl rfl rfl F.cl13 rfl (parse_T h hl hn _) ?_; intro w12 bw12
    replace A_g3 := A_g3.call bw12
    replace A_g5 := A_g5.call bw12
    replace HB := Kw.Below.then HB (Nat.le_refl _) bw12
    clear bw12
    refine Kw.WL_v rfl rfl rfl (Kw.R_move rfl) ?_
    refine Kw.WL_v rfl rfl rfl (Kw.R_extract rfl rfl) ?_
    refine Kw.WL_v rfl rfl rfl (Kw.R_extract rfl rfl) ?_
    refine Kw.WL_alloc rfl rfl F.zr24 ?_; intro g8 w13 N_g8
    have L_g3_g8 := N_g8.ne A_g3; replace A_g3 := N_g8.keep A_g3
    have L_g5_g8 := N_g8.ne A_g5; replace A_g5 := N_g8.keep A_g5
    have A_g8 : Kw.At w13 g8 F.Z24 24 := N_g8.at_
    have G_g8 := N_g8.ge HB (Nat.le_refl _); replace HB := N_g8.below HB (Nat.le_refl _); clear N_g8
    refine Kw.WL_storeW rfl rfl rfl (by rw [cells8_size]; first | (rw [hl]; exact F.sz24) | (rw [parse_length]; exact F.sz24) | (rw [lb]; exact F.sz24) | (rw [lc]; exact F.sz24) | exact F.sz24) A_g8 (by rw [cells8_size]; first | (rw [hl]; rfl) | (rw [parse_length]; rfl) | (rw [lb]; rfl) | (rw [lc]; rfl) | rfl) (by simpa using cells8_one _) ?_; intro w14 M_g8
    replace A_g3 := M_g8.keep A_g3 (Nat.ne_of_lt L_g3_g8)
    replace A_g5 := M_g8.keep A_g5 (Nat.ne_of_lt L_g5_g8)
    replace A_g8 : Kw.At w14 g8 (cells8 h) 24 := M_g8.at_ A_g8
    replace HB := M_g8.below HB G_g8; clear M_g8
    refine Kw.WL_v rfl rfl rfl (Kw.R_assign rfl) ?_
    refine Kw.WL_nil ?_
    refine hK11 _ _ ?_; clear hK11 K11
    refine Kw.WC_sub (l' := [(1, .string s), (3, .pointer (some ⟨g3, 0, none⟩)), (5, .pointer (some ⟨g5, 0, none⟩)), (7, .string (hexS h)), (8, .pointer (some ⟨g8, 0, none⟩)), (9, .bool true)]) (Kw.Sub.cons rfl (Kw.Sub.cons rfl (Kw.Sub.cons rfl (Kw.Sub.cons rfl (Kw.Sub.cons rfl (Kw.Sub.cons rfl Kw.Sub.nil)))))) ?_
    refine Kw.WC_seq (fun K15 hK15 => ?_)
    refine Kw.WC_region [some 29, some 30, some 28, some 31, some 32, some 10, none, some 11] rfl ?_
    refine Kw.WL_v rfl rfl rfl (Kw.R_move rfl) ?_
    refine Kw.WL_callc rfl rfl rfl rfl F.cl13 rfl (parse_S s b his _) ?_; intro w16 bw16
    replace A_g3 := A_g3.call bw16
    replace A_g5 := A_g5.call bw16
    replace A_g8 := A_g8.call bw16
    replace HB := Kw.Below.then HB (Nat.le_refl _) bw16
    clear bw16
    refine Kw.WL_v rfl rfl rfl (Kw.R_move rfl) ?_
    refine Kw.WL_v rfl rfl rfl (Kw.R_extract rfl rfl) ?_
    refine Kw.WL_v rfl rfl rfl (Kw.R_extract rfl rfl) ?_
    refine Kw.WL_alloc rfl rfl F.zr24 ?_; intro g10 w17 N_g10
    have L_g3_g10 := N_g10.ne A_g3; replace A_g3 := N_g10.keep A_g3
    have L_g5_g10 := N_g10.ne A_g5; replace A_g5 := N_g10.keep A_g5
    have L_g8_g10 := N_g10.ne A_g8; replace A_g8 := N_g10.keep A_g8
    have A_g10 : Kw.At w17 g10 F.Z24 24 := N_g10.at_
    have G_g10 := N_g10.ge HB (Nat.le_refl _); replace HB := N_g10.below HB (Nat.le_refl _); clear N_g10
    refine Kw.WL_storeW rfl rfl rfl (by rw [cells8_size]; first | (rw [hl]; exact F.sz24) | (rw [parse_length]; exact F.sz24) | (rw [lb]; exact F.sz24) | (rw [lc]; exact F.sz24) | exact F.sz24) A_g10 (by rw [cells8_size]; first | (rw [hl]; rfl) | (rw [parse_length]; rfl) | (rw [lb]; rfl) | (rw [lc]; rfl) | rfl) (by simpa using cells8_one _) ?_; intro w18 M_g10
    replace A_g3 := M_g10.keep A_g3 (Nat.ne_of_lt L_g3_g10)
    replace A_g5 := M_g10.keep A_g5 (Nat.ne_of_lt L_g5_g10)
    replace A_g8 := M_g10.keep A_g8 (Nat.ne_of_lt L_g8_g10)
    replace A_g10 : Kw.At w18 g10 (cells8 b) 24 := M_g10.at_ A_g10
    replace HB := M_g10.below HB G_g10; clear M_g10
    refine Kw.WL_v rfl rfl rfl (Kw.R_assign rfl) ?_
    refine Kw.WL_nil ?_
    refine hK15 _ _ ?_; clear hK15 K15
    refine Kw.WC_seq (fun K19 hK19 => ?_)
    refine Kw.WC_seq (fun K20 hK20 => ?_)
    refine Kw.WC_region [some 33, some 34, some 35, some 36, some 37, some 38, some 39, some 40, some 41, some 42, some 43, some 44, some 45, some 46, some 47, some 48, some 49, some 50, some 51, some 52, some 53, some 54, some 55, some 56, some 57, some 58, some 59, some 60, some 61, some 62] rfl ?_
    refine Kw.WL_v rfl rfl rfl (Kw.R_move rfl) ?_
    refine Kw.WL_v rfl rfl rfl (Kw.R_lens Tryd.underlying9 rfl) ?_
    refine Kw.WL_v rfl rfl rfl (Kw.R_nei (z := false) rfl rfl (decide_eq_true (by rw [hexS_size]; rfl))) ?_
    refine Kw.WL_v rfl rfl rfl (Kw.R_move rfl) ?_
    refine Kw.WL_v rfl rfl rfl (Kw.R_loadW rfl Tryd.underlying24 rfl (by rw [cells8_size]; first | (rw [hl]; exact F.sz24) | (rw [parse_length]; exact F.sz24) | (rw [lb]; exact F.sz24) | (rw [lc]; exact F.sz24) | exact F.sz24) A_g8) ?_
    refine Kw.WL_v rfl rfl rfl (Kw.R_loadW rfl Tryd.underlying24 rfl (by rw [cells8_size]; first | (rw [hl]; exact F.sz24) | (rw [parse_length]; exact F.sz24) | (rw [lb]; exact F.sz24) | (rw [lc]; exact F.sz24) | exact F.sz24) A_g3) ?_
    refine Kw.WL_v rfl rfl rfl (R_neh (z := false) rfl rfl hl hl hn hn (decide_eq_true rfl)) ?_
    refine Kw.WL_v rfl rfl rfl (Kw.R_pickf rfl rfl) ?_
    refine Kw.WL_v rfl rfl rfl (Kw.R_move rfl) ?_
    refine Kw.WL_v rfl rfl rfl (Kw.R_move rfl) ?_
    refine Kw.WL_v rfl rfl rfl (Kw.R_not rfl rfl) ?_
    refine Kw.WL_v rfl rfl rfl (Kw.R_pickf rfl rfl) ?_
    refine Kw.WL_v rfl rfl rfl (Kw.R_move rfl) ?_
    refine Kw.WL_v rfl rfl rfl (Kw.R_move rfl) ?_
    refine Kw.WL_v rfl rfl rfl (Kw.R_move rfl) ?_
    refine Kw.WL_v rfl rfl rfl (Kw.R_loadW rfl Tryd.underlying24 rfl (by rw [cells8_size]; first | (rw [hl]; exact F.sz24) | (rw [parse_length]; exact F.sz24) | (rw [lb]; exact F.sz24) | (rw [lc]; exact F.sz24) | exact F.sz24) A_g10) ?_
    refine Kw.WL_callc rfl rfl rfl rfl F.cl15 rfl (hex_S s b his _) ?_; intro w21 bw21
    replace A_g3 := A_g3.call bw21
    replace A_g5 := A_g5.call bw21
    replace A_g8 := A_g8.call bw21
    replace A_g10 := A_g10.call bw21
    replace HB := Kw.Below.then HB (Nat.le_refl _) bw21
    clear bw21
    refine Kw.WL_v rfl rfl rfl (Kw.R_move rfl) ?_
    refine Kw.WL_v rfl rfl rfl (Kw.R_nes (z := false) rfl rfl (decide_eq_true rfl)) ?_
    refine Kw.WL_v rfl rfl rfl (Kw.R_pickt rfl rfl) ?_
    refine Kw.WL_v rfl rfl rfl (Kw.R_pickf rfl rfl) ?_
    refine Kw.WL_v rfl rfl rfl (Kw.R_move rfl) ?_
    refine Kw.WL_v rfl rfl rfl (Kw.R_move rfl) ?_
    refine Kw.WL_v rfl rfl rfl (Kw.R_not rfl rfl) ?_
    refine Kw.WL_v rfl rfl rfl (Kw.R_move rfl) ?_
    refine Kw.WL_off rfl rfl rfl ?_
    refine Kw.WL_off rfl rfl rfl ?_
    refine Kw.WL_off rfl rfl rfl ?_
    refine Kw.WL_v rfl rfl rfl (Kw.R_pickf rfl rfl) ?_
    refine Kw.WL_v rfl rfl rfl (Kw.R_pickf rfl rfl) ?_
    refine Kw.WL_nil ?_
    refine hK20 _ _ ?_; clear hK20 K20
    refine Kw.WC_sub (l' := [(3, .pointer (some ⟨g3, 0, none⟩)), (5, .pointer (some ⟨g5, 0, none⟩)), (7, .string (hexS h)), (62, .bool false)]) (Kw.Sub.cons rfl (Kw.Sub.cons rfl (Kw.Sub.cons rfl (Kw.Sub.cons rfl Kw.Sub.nil)))) ?_
    refine Kw.WC_false rfl ?_
    refine Kw.WC_skip ?_
    refine hK19 _ _ ?_; clear hK19 K19
    refine Kw.WC_seq (fun K22 hK22 => ?_)
    refine Kw.WC_region [some 63, some 64, some 65, some 66, some 12] rfl ?_
    refine Kw.WL_v rfl rfl rfl (Kw.R_indexAddrA (i := 0) (o' := 0) rfl rfl Tryd.underlying31 F.sz5 (by decide) (rfl)) ?_
    refine Kw.WL_v rfl rfl rfl (Kw.R_load1 rfl Tryd.underlying5 rfl A_g5 rfl) ?_
    refine Kw.WL_v rfl rfl rfl (Kw.R_conv (c := a0) Tryd.underlying5 Tryd.underlying3 rfl (Kw.wrap_i64 (by omega))) ?_
    obtain ⟨k, hk⟩ : ∃ x : Nat, (x : Int) = a0 % 64 := ⟨(a0 % 64).toNat, by omega⟩
    refine Kw.WL_v rfl rfl rfl (Kw.R_rem (c := (k : Int)) rfl rfl (by omega) (by rw [Kw.tmod_pos (by omega)]; rw [hk])) ?_
    refine Kw.WL_v rfl rfl rfl (Kw.R_assign rfl) ?_
    refine Kw.WL_nil ?_
    refine hK22 _ _ ?_; clear hK22 K22
    refine Kw.WC_seq (fun K23 hK23 => ?_)
    refine Kw.WC_sched (fun ww => Kw.At ww g3 (cells8 h) 24 ∧ Kw.At ww g5 #[.int .u8 a0, .int .u8 a1] 31 ∧ Kw.At ww g8 (cells8 h) 24 ∧ Kw.At ww g10 (cells8 b) 24 ∧ True) [(0, true), (1, true), (2, true), (3, true), (4, true), (8, true), (9, true), (10, true), (11, true), (5, false), (6, false), (7, true), (12, true), (13, true)] [some 67, some 68, some 69, some 70, some 71, some 72, some 73, some 74, some 75, some 76, some 77, some 78, some 79, some 13] rfl (by kernel_rfl) rfl (by kernel_rfl) ?_
    obtain ⟨w24, hww24⟩ : ∃ x : World, x = Go.World.drew w21 := ⟨_, rfl⟩
    rw [← hww24]
    replace A_g3 : Kw.At w24 g3 (cells8 h) 24 := by rw [hww24]; exact A_g3
    replace A_g5 : Kw.At w24 g5 #[.int .u8 a0, .int .u8 a1] 31 := by rw [hww24]; exact A_g5
    replace A_g8 : Kw.At w24 g8 (cells8 h) 24 := by rw [hww24]; exact A_g8
    replace A_g10 : Kw.At w24 g10 (cells8 b) 24 := by rw [hww24]; exact A_g10
    replace HB : Below w.heap.size w w24 := by rw [hww24]; exact HB.drew
    clear hww24
    have hS : Kw.At w24 g3 (cells8 h) 24 ∧ Kw.At w24 g5 #[.int .u8 a0, .int .u8 a1] 31 ∧ Kw.At w24 g8 (cells8 h) 24 ∧ Kw.At w24 g10 (cells8 b) 24 ∧ True := ⟨A_g3, A_g5, A_g8, A_g10, trivial⟩
    refine Kw.WX_take rfl rfl rfl rfl (fun _ _ _ h => h) hS (fun _ ⟨A_g3, A_g5, A_g8, A_g10, _⟩ => Kw.R_move rfl) ?_
    refine Kw.WX_take rfl rfl rfl rfl (fun _ _ _ h => h) hS (fun _ ⟨A_g3, A_g5, A_g8, A_g10, _⟩ => Kw.R_move rfl) ?_
    refine Kw.WX_take rfl rfl rfl rfl (fun _ _ _ h => h) hS (fun _ ⟨A_g3, A_g5, A_g8, A_g10, _⟩ => Kw.R_slices (i := 0) (j := k) (r := ((hexS h).extract 0 k)) Tryd.underlying9 rfl rfl ⟨_, rfl⟩ (by omega) (by rw [hexS_size]; omega) (rfl)) ?_
    refine Kw.WX_take rfl rfl rfl rfl (fun _ _ _ h => h) hS (fun _ ⟨A_g3, A_g5, A_g8, A_g10, _⟩ => Kw.R_indexAddrA (i := 1) (o' := 1) rfl rfl Tryd.underlying31 F.sz5 (by decide) (rfl)) ?_
    refine Kw.WX_take rfl rfl rfl rfl (fun _ _ _ h => h) hS (fun _ ⟨A_g3, A_g5, A_g8, A_g10, _⟩ => Kw.R_load1 rfl Tryd.underlying5 rfl A_g5 rfl) ?_
    refine Kw.WX_take rfl rfl rfl rfl (fun _ _ _ h => h) hS (fun _ ⟨A_g3, A_g5, A_g8, A_g10, _⟩ => Kw.R_move rfl) ?_
    refine Kw.WX_take rfl rfl rfl rfl (fun _ _ _ h => h) hS (fun _ ⟨A_g3, A_g5, A_g8, A_g10, _⟩ => Kw.R_move rfl) ?_
    obtain ⟨j77, hj77⟩ : ∃ x : Nat, (x : Int) = (k : Int) + 1 := ⟨((k : Int) + 1).toNat, by omega⟩
    refine Kw.WX_take rfl rfl rfl rfl (fun _ _ _ h => h) hS (fun _ ⟨A_g3, A_g5, A_g8, A_g10, _⟩ => Kw.R_add (c := (j77 : Int)) rfl rfl (by rw [Kw.wrap_i64 (by omega)]; rw [hj77])) ?_
    refine Kw.WX_take rfl rfl rfl rfl (fun _ _ _ h => h) hS (fun _ ⟨A_g3, A_g5, A_g8, A_g10, _⟩ => Kw.R_slices (i := j77) (j := (hexS h).size) (r := ((hexS h).extract (k + 1) 64)) Tryd.underlying9 rfl ⟨_, rfl⟩ rfl (by rw [hexS_size]; omega) (Nat.le_refl _) (by rw [hexS_size, show j77 = k + 1 by omega])) ?_
    obtain ⟨g72, w25, N_g72⟩ : ∃ b w2, Kw.Newb w24 b #[.int .u8 a1] 5 w2 := ⟨_, _, rfl, rfl⟩
    have R_g72 := fun (l : Kw.Env) (h : Kw.evsP l [(0, .tmp 71)] = some [(0, .int .u8 a1)]) => Kw.R_buildSlice (P := Tryd.prog) (l := l) (D := some 72) (T := 32) (S := "outright.go:22") (F := #[⟨4, .data⟩]) (g := none) (t := 32) (len := 1) h (fun w => by kernel_rfl) N_g72
    have L_g3_g72 := N_g72.ne A_g3; replace A_g3 := N_g72.keep A_g3
    have L_g5_g72 := N_g72.ne A_g5; replace A_g5 := N_g72.keep A_g5
    have L_g8_g72 := N_g72.ne A_g8; replace A_g8 := N_g72.keep A_g8
    have L_g10_g72 := N_g72.ne A_g10; replace A_g10 := N_g72.keep A_g10
    have A_g72 : Kw.At w25 g72 #[.int .u8 a1] 5 := N_g72.at_
    have G_g72 := N_g72.ge HB (Nat.le_refl _); replace HB := N_g72.below HB (Nat.le_refl _); clear N_g72
    clear hS; have hS : Kw.At w25 g3 (cells8 h) 24 ∧ Kw.At w25 g5 #[.int .u8 a0, .int .u8 a1] 31 ∧ Kw.At w25 g8 (cells8 h) 24 ∧ Kw.At w25 g10 (cells8 b) 24 ∧ True := ⟨A_g3, A_g5, A_g8, A_g10, trivial⟩
    refine Kw.WX_v rfl rfl rfl rfl (R_g72 _ rfl) hS ?_; clear R_g72
    refine Kw.WX_v rfl rfl rfl rfl (Kw.R_convbs (bs := [a1.toNat.toUInt8]) (r := (oneB a1)) Tryd.underlying32 Tryd.underlying5 Tryd.underlying9 rfl A_g72 (rfl) (fun j hj => by obtain rfl : j = 0 := (by have : j < 1 := hj; omega); have := u8_back a1 r1; simp [this]; omega) (rfl)) hS ?_
    refine Kw.WX_take rfl rfl rfl rfl (fun _ _ _ h => h) hS (fun _ ⟨A_g3, A_g5, A_g8, A_g10, _⟩ => Kw.R_adds (r := ((hexS h).extract 0 k ++ oneB a1)) rfl rfl (by rw [ByteArray.size_extract, hexS_size]; show _ + 1 ≤ _; omega) (rfl)) ?_
    refine Kw.WX_take rfl rfl rfl rfl (fun _ _ _ h => h) hS (fun _ ⟨A_g3, A_g5, A_g8, A_g10, _⟩ => Kw.R_adds (r := (putU (hexS h) k a1)) rfl rfl (by rw [ByteArray.size_append, ByteArray.size_extract, ByteArray.size_extract, hexS_size]; show _ + 1 + _ ≤ _; omega) (rfl)) ?_
    refine Kw.WX_take rfl rfl rfl rfl (fun _ _ _ h => h) hS (fun _ ⟨A_g3, A_g5, A_g8, A_g10, _⟩ => Kw.R_assign rfl) ?_
    refine Kw.WX_nil ?_
    clear hS
    refine hK23 _ _ ?_; clear hK23 K23
    refine Kw.WC_sub (l' := [(3, .pointer (some ⟨g3, 0, none⟩)), (5, .pointer (some ⟨g5, 0, none⟩)), (7, .string (hexS h)), (13, .string (putU (hexS h) k a1))]) (Kw.Sub.cons rfl (Kw.Sub.cons rfl (Kw.Sub.cons rfl (Kw.Sub.cons rfl Kw.Sub.nil)))) ?_
    refine Kw.WC_seq (fun K26 hK26 => ?_)
    refine Kw.WC_region [some 81, some 82, some 80, some 83, some 84, some 14, none, some 15] rfl ?_
    refine Kw.WL_v rfl rfl rfl (Kw.R_move rfl) ?_
    rcases odd_cases h hl hn k (by omega) a1 r1 with ⟨hod, hdig⟩ | ⟨c, hod, hdig, lc, bc, hcu⟩
    ·
      refine Kw.WL_callc rfl rfl rfl rfl F.cl13 rfl (parse_N _ hod _) ?_; intro w27 bw27
      replace A_g3 := A_g3.call bw27
      replace A_g5 := A_g5.call bw27
      replace A_g8 := A_g8.call bw27
      replace A_g10 := A_g10.call bw27
      replace A_g72 := A_g72.call bw27
      replace HB := Kw.Below.then HB (Nat.le_refl _) bw27
      clear bw27
      obtain ⟨z, hz⟩ : ∃ z, decide (zeros32 = h) = z := ⟨_, rfl⟩
      refine Kw.WL_v rfl rfl rfl (Kw.R_move rfl) ?_
      refine Kw.WL_v rfl rfl rfl (Kw.R_extract rfl rfl) ?_
      refine Kw.WL_v rfl rfl rfl (Kw.R_extract rfl rfl) ?_
      refine Kw.WL_alloc rfl rfl F.zr24 ?_; intro g14 w28 N_g14
      have L_g3_g14 := N_g14.ne A_g3; replace A_g3 := N_g14.keep A_g3
      have L_g5_g14 := N_g14.ne A_g5; replace A_g5 := N_g14.keep A_g5
      have L_g8_g14 := N_g14.ne A_g8; replace A_g8 := N_g14.keep A_g8
      have L_g10_g14 := N_g14.ne A_g10; replace A_g10 := N_g14.keep A_g10
      have L_g72_g14 := N_g14.ne A_g72; replace A_g72 := N_g14.keep A_g72
      have A_g14 : Kw.At w28 g14 F.Z24 24 := N_g14.at_
      have G_g14 := N_g14.ge HB (Nat.le_refl _); replace HB := N_g14.below HB (Nat.le_refl _); clear N_g14
      refine Kw.WL_storeW rfl rfl rfl (by rw [cells8_size]; first | (rw [hl]; exact F.sz24) | (rw [parse_length]; exact F.sz24) | (rw [lb]; exact F.sz24) | (rw [lc]; exact F.sz24) | exact F.sz24) A_g14 (by rw [cells8_size]; first | (rw [hl]; rfl) | (rw [parse_length]; rfl) | (rw [lb]; rfl) | (rw [lc]; rfl) | rfl) (by simpa using cells8_one _) ?_; intro w29 M_g14
      replace A_g3 := M_g14.keep A_g3 (Nat.ne_of_lt L_g3_g14)
      replace A_g5 := M_g14.keep A_g5 (Nat.ne_of_lt L_g5_g14)
      replace A_g8 := M_g14.keep A_g8 (Nat.ne_of_lt L_g8_g14)
      replace A_g10 := M_g14.keep A_g10 (Nat.ne_of_lt L_g10_g14)
      replace A_g72 := M_g14.keep A_g72 (Nat.ne_of_lt L_g72_g14)
      replace A_g14 : Kw.At w29 g14 (cells8 zeros32) 24 := M_g14.at_ A_g14
      replace HB := M_g14.below HB G_g14; clear M_g14
      refine Kw.WL_v rfl rfl rfl (Kw.R_assign rfl) ?_
      refine Kw.WL_nil ?_
      refine hK26 _ _ ?_; clear hK26 K26
      refine Kw.WC_seq (fun K30 hK30 => ?_)
      refine Kw.WC_region [some 85, some 86, some 87, some 88, some 89, some 90, some 91, some 92, some 93, some 94, some 95, some 96, some 97, some 98, some 99, some 100, some 101, some 102, some 16] rfl ?_
      refine Kw.WL_v rfl rfl rfl (Kw.R_indexAddrA (i := 1) (o' := 1) rfl rfl Tryd.underlying31 F.sz5 (by decide) (rfl)) ?_
      refine Kw.WL_v rfl rfl rfl (Kw.R_load1 rfl Tryd.underlying5 rfl A_g5 rfl) ?_
      by_cases c31 : (48 : Int) ≤ a1
      ·
        refine Kw.WL_v rfl rfl rfl (Kw.R_geq (z := true) rfl rfl (decide_eq_true c31)) ?_
        refine Kw.WL_v rfl rfl rfl (Kw.R_move rfl) ?_
        refine Kw.WL_v rfl rfl rfl (Kw.R_indexAddrA (i := 1) (o' := 1) rfl rfl Tryd.underlying31 F.sz5 (by decide) (rfl)) ?_
        refine Kw.WL_v rfl rfl rfl (Kw.R_load1 rfl Tryd.underlying5 rfl A_g5 rfl) ?_
        by_cases c32 : (a1 : Int) ≤ 57
        ·
          refine Kw.WL_v rfl rfl rfl (Kw.R_leq (z := true) rfl rfl (decide_eq_true c32)) ?_
          refine Kw.WL_v rfl rfl rfl (Kw.R_pickt rfl rfl) ?_
          refine Kw.WL_v rfl rfl rfl (Kw.R_move rfl) ?_
          refine Kw.WL_off rfl rfl rfl ?_
          refine Kw.WL_off rfl rfl rfl ?_
          refine Kw.WL_off rfl rfl rfl ?_
          refine Kw.WL_off rfl rfl rfl ?_
          refine Kw.WL_off rfl rfl rfl ?_
          refine Kw.WL_off rfl rfl rfl ?_
          refine Kw.WL_off rfl rfl rfl ?_
          refine Kw.WL_off rfl rfl rfl ?_
          exfalso; first | exact digit_not_lo hdig (by assumption) | exact digit_not_mid hdig (by assumption) (by assumption) | exact digit_not_hi hdig (by assumption) | exact digit_is_num hdig (by assumption) (by assumption) | exact digit_is_let hdig (by assumption) (by assumption)
        ·
          refine Kw.WL_v rfl rfl rfl (Kw.R_leq (z := false) rfl rfl (decide_eq_false c32)) ?_
          refine Kw.WL_v rfl rfl rfl (Kw.R_pickt rfl rfl) ?_
          refine Kw.WL_v rfl rfl rfl (Kw.R_move rfl) ?_
          refine Kw.WL_v rfl rfl rfl (Kw.R_indexAddrA (i := 1) (o' := 1) rfl rfl Tryd.underlying31 F.sz5 (by decide) (rfl)) ?_
          refine Kw.WL_v rfl rfl rfl (Kw.R_load1 rfl Tryd.underlying5 rfl A_g5 rfl) ?_
          by_cases c33 : (97 : Int) ≤ a1
          ·
            refine Kw.WL_v rfl rfl rfl (Kw.R_geq (z := true) rfl rfl (decide_eq_true c33)) ?_
            refine Kw.WL_v rfl rfl rfl (Kw.R_move rfl) ?_
            refine Kw.WL_v rfl rfl rfl (Kw.R_indexAddrA (i := 1) (o' := 1) rfl rfl Tryd.underlying31 F.sz5 (by decide) (rfl)) ?_
            refine Kw.WL_v rfl rfl rfl (Kw.R_load1 rfl Tryd.underlying5 rfl A_g5 rfl) ?_
            by_cases c34 : (a1 : Int) ≤ 102
            ·
              refine Kw.WL_v rfl rfl rfl (Kw.R_leq (z := true) rfl rfl (decide_eq_true c34)) ?_
              refine Kw.WL_v rfl rfl rfl (Kw.R_pickt rfl rfl) ?_
              exfalso; first | exact digit_not_lo hdig (by assumption) | exact digit_not_mid hdig (by assumption) (by assumption) | exact digit_not_hi hdig (by assumption) | exact digit_is_num hdig (by assumption) (by assumption) | exact digit_is_let hdig (by assumption) (by assumption)
            ·
              refine Kw.WL_v rfl rfl rfl (Kw.R_leq (z := false) rfl rfl (decide_eq_false c34)) ?_
              refine Kw.WL_v rfl rfl rfl (Kw.R_pickt rfl rfl) ?_
              refine Kw.WL_v rfl rfl rfl (Kw.R_pickf rfl rfl) ?_
              refine Kw.WL_v rfl rfl rfl (Kw.R_assign rfl) ?_
              refine Kw.WL_nil ?_
              refine hK30 _ _ ?_; clear hK30 K30
              refine Kw.WC_sub (l' := [(3, .pointer (some ⟨g3, 0, none⟩)), (7, .string (hexS h)), (13, .string (putU (hexS h) k a1)), (14, .pointer (some ⟨g14, 0, none⟩)), (15, .bool false), (16, .bool false)]) (Kw.Sub.cons rfl (Kw.Sub.cons rfl (Kw.Sub.cons rfl (Kw.Sub.cons rfl (Kw.Sub.cons rfl (Kw.Sub.cons rfl Kw.Sub.nil)))))) ?_
              refine Kw.WC_seq (fun K35 hK35 => ?_)
              refine Kw.WC_sched (fun ww => Kw.At ww g3 (cells8 h) 24 ∧ Kw.At ww g14 (cells8 zeros32) 24 ∧ True) [(0, true), (1, true), (2, true), (3, true), (4, true), (5, true), (6, true), (7, true), (8, true), (9, true), (10, true), (11, true), (12, true), (13, true), (14, true), (15, true), (16, true), (17, true), (18, true), (19, true), (20, true), (21, true), (22, true), (23, true), (24, true), (25, false), (26, true), (27, true)] [some 103, some 104, some 105, some 106, some 107, some 108, some 109, some 110, some 111, some 112, some 113, some 114, some 115, some 116, some 117, some 118, some 119, some 120, some 121, some 122, some 123, some 124, some 125, some 126, some 127, some 128, some 129, some 6] rfl (by kernel_rfl) rfl (by kernel_rfl) ?_
              obtain ⟨w36, hww36⟩ : ∃ x : World, x = Go.World.drew w29 := ⟨_, rfl⟩
              rw [← hww36]
              replace A_g3 : Kw.At w36 g3 (cells8 h) 24 := by rw [hww36]; exact A_g3
              replace A_g5 : Kw.At w36 g5 #[.int .u8 a0, .int .u8 a1] 31 := by rw [hww36]; exact A_g5
              replace A_g8 : Kw.At w36 g8 (cells8 h) 24 := by rw [hww36]; exact A_g8
              replace A_g10 : Kw.At w36 g10 (cells8 b) 24 := by rw [hww36]; exact A_g10
              replace A_g72 : Kw.At w36 g72 #[.int .u8 a1] 5 := by rw [hww36]; exact A_g72
              replace A_g14 : Kw.At w36 g14 (cells8 zeros32) 24 := by rw [hww36]; exact A_g14
              replace HB : Below w.heap.size w w36 := by rw [hww36]; exact HB.drew
              clear hww36
              have hS : Kw.At w36 g3 (cells8 h) 24 ∧ Kw.At w36 g14 (cells8 zeros32) 24 ∧ True := ⟨A_g3, A_g14, trivial⟩
              refine Kw.WX_take rfl rfl rfl rfl (fun _ _ _ h => h) hS (fun _ ⟨A_g3, A_g14, _⟩ => Kw.R_move rfl) ?_
              refine Kw.WX_take rfl rfl rfl rfl (fun _ _ _ h => h) hS (fun _ ⟨A_g3, A_g14, _⟩ => Kw.R_move rfl) ?_
              refine Kw.WX_take rfl rfl rfl rfl (fun _ _ _ h => h) hS (fun _ ⟨A_g3, A_g14, _⟩ => Kw.R_eqb rfl rfl Tryd.underlying4 rfl) ?_
              refine Kw.WX_take rfl rfl rfl rfl (fun _ _ _ h => h) hS (fun _ ⟨A_g3, A_g14, _⟩ => Kw.R_move rfl) ?_
              refine Kw.WX_take rfl rfl rfl rfl (fun _ _ _ h => h) hS (fun _ ⟨A_g3, A_g14, _⟩ => Kw.R_loadW rfl Tryd.underlying24 rfl (by rw [cells8_size]; first | (rw [hl]; exact F.sz24) | (rw [parse_length]; exact F.sz24) | (rw [lb]; exact F.sz24) | (rw [lc]; exact F.sz24) | exact F.sz24) A_g14) ?_
              refine Kw.WX_take rfl rfl rfl rfl (fun _ _ _ h => h) hS (fun _ ⟨A_g3, A_g14, _⟩ => Kw.R_loadW rfl Tryd.underlying24 rfl (by rw [cells8_size]; first | (rw [hl]; exact F.sz24) | (rw [parse_length]; exact F.sz24) | (rw [lb]; exact F.sz24) | (rw [lc]; exact F.sz24) | exact F.sz24) A_g3) ?_
              refine Kw.WX_take rfl rfl rfl rfl (fun _ _ _ h => h) hS (fun _ ⟨A_g3, A_g14, _⟩ => R_eqh rfl rfl rfl hl bytes_zeros hn hz) ?_
              refine Kw.WX_take rfl rfl rfl rfl (fun _ _ _ h => h) hS (fun _ ⟨A_g3, A_g14, _⟩ => Kw.R_move rfl) ?_
              refine Kw.WX_take rfl rfl rfl rfl (fun _ _ _ h => h) hS (fun _ ⟨A_g3, A_g14, _⟩ => Kw.R_move rfl) ?_
              refine Kw.WX_off rfl rfl rfl rfl (fun _ _ _ h => h) hS ?_
              refine Kw.WX_off rfl rfl rfl rfl (fun _ _ _ h => h) hS ?_
              refine Kw.WX_off rfl rfl rfl rfl (fun _ _ _ h => h) hS ?_
              refine Kw.WX_take rfl rfl rfl rfl (fun _ _ _ h => h) hS (fun _ ⟨A_g3, A_g14, _⟩ => Kw.R_pickf rfl rfl) ?_
              refine Kw.WX_take rfl rfl rfl rfl (fun _ _ _ h => h) hS (fun _ ⟨A_g3, A_g14, _⟩ => Kw.R_move rfl) ?_
              refine Kw.WX_take rfl rfl rfl rfl (fun _ _ _ h => h) hS (fun _ ⟨A_g3, A_g14, _⟩ => Kw.R_move rfl) ?_
              refine Kw.WX_take rfl rfl rfl rfl (fun _ _ _ h => h) hS (fun _ ⟨A_g3, A_g14, _⟩ => Kw.R_not rfl rfl) ?_
              refine Kw.WX_take rfl rfl rfl rfl (fun _ _ _ h => h) hS (fun _ ⟨A_g3, A_g14, _⟩ => Kw.R_move rfl) ?_
              refine Kw.WX_take rfl rfl rfl rfl (fun _ _ _ h => h) hS (fun _ ⟨A_g3, A_g14, _⟩ => Kw.R_loadW rfl Tryd.underlying24 rfl (by rw [cells8_size]; first | (rw [hl]; exact F.sz24) | (rw [parse_length]; exact F.sz24) | (rw [lb]; exact F.sz24) | (rw [lc]; exact F.sz24) | exact F.sz24) A_g3) ?_
              refine Kw.WX_take rfl rfl rfl rfl (fun _ _ _ h => h) hS (fun _ ⟨A_g3, A_g14, _⟩ => R_bh) ?_
              refine Kw.WX_take rfl rfl rfl rfl (fun _ _ _ h => h) hS (fun _ ⟨A_g3, A_g14, _⟩ => R_eqh rfl rfl hl rfl hn bytes_zeros ((decide_eq_decide.2 ⟨Eq.symm, Eq.symm⟩).trans hz)) ?_
              refine Kw.WX_take rfl rfl rfl rfl (fun _ _ _ h => h) hS (fun _ ⟨A_g3, A_g14, _⟩ => Kw.R_pickt rfl rfl) ?_
              refine Kw.WX_take rfl rfl rfl rfl (fun _ _ _ h => h) hS (fun _ ⟨A_g3, A_g14, _⟩ => Kw.R_pickf rfl rfl) ?_
              refine Kw.WX_take rfl rfl rfl rfl (fun _ _ _ h => h) hS (fun _ ⟨A_g3, A_g14, _⟩ => Kw.R_eqb (z := true) rfl rfl Tryd.underlying4 (by simp)) ?_
              refine Kw.WX_take rfl rfl rfl rfl (fun _ _ _ h => h) hS (fun _ ⟨A_g3, A_g14, _⟩ => Kw.R_pickt rfl rfl) ?_
              refine Kw.WX_take rfl rfl rfl rfl (fun _ _ _ h => h) hS (fun _ ⟨A_g3, A_g14, _⟩ => Kw.R_move rfl) ?_
              refine Kw.WX_callc rfl rfl rfl rfl rfl F.cl10 rfl (Ha _ HB) ?_; intro w38 bw38
              clear hS
              replace A_g3 := A_g3.call bw38
              replace A_g5 := A_g5.call bw38
              replace A_g8 := A_g8.call bw38
              replace A_g10 := A_g10.call bw38
              replace A_g72 := A_g72.call bw38
              replace A_g14 := A_g14.call bw38
              replace HB := Kw.Below.then HB (Nat.le_refl _) bw38
              have hS : Kw.At w38 g3 (cells8 h) 24 ∧ Kw.At w38 g14 (cells8 zeros32) 24 ∧ True := ⟨A_g3, A_g14, trivial⟩
              clear bw38
              refine ⟨hS, ?_⟩
              refine Kw.WX_take rfl rfl rfl rfl (fun _ _ _ h => h) hS (fun _ ⟨A_g3, A_g14, _⟩ => Kw.R_pickt rfl rfl) ?_
              refine Kw.WX_take rfl rfl rfl rfl (fun _ _ _ h => h) hS (fun _ ⟨A_g3, A_g14, _⟩ => Kw.R_assign rfl) ?_
              refine Kw.WX_nil ?_
              clear hS
              refine hK35 _ _ ?_; clear hK35 K35
              refine Kw.WC_sub (l' := [(6, .bool true)]) (Kw.Sub.cons rfl Kw.Sub.nil) ?_
              refine Kw.WC_ret ?_
              exact Kw.post_ret1 rfl rfl ⟨rfl, HB⟩
          ·
            refine Kw.WL_v rfl rfl rfl (Kw.R_geq (z := false) rfl rfl (decide_eq_false c33)) ?_
            refine Kw.WL_v rfl rfl rfl (Kw.R_move rfl) ?_
            refine Kw.WL_off rfl rfl rfl ?_
            refine Kw.WL_off rfl rfl rfl ?_
            refine Kw.WL_off rfl rfl rfl ?_
            refine Kw.WL_v rfl rfl rfl (Kw.R_pickf rfl rfl) ?_
            refine Kw.WL_v rfl rfl rfl (Kw.R_pickf rfl rfl) ?_
            refine Kw.WL_v rfl rfl rfl (Kw.R_assign rfl) ?_
            refine Kw.WL_nil ?_
            refine hK30 _ _ ?_; clear hK30 K30
            refine Kw.WC_sub (l' := [(3, .pointer (some ⟨g3, 0, none⟩)), (7, .string (hexS h)), (13, .string (putU (hexS h) k a1)), (14, .pointer (some ⟨g14, 0, none⟩)), (15, .bool false), (16, .bool false)]) (Kw.Sub.cons rfl (Kw.Sub.cons rfl (Kw.Sub.cons rfl (Kw.Sub.cons rfl (Kw.Sub.cons rfl (Kw.Sub.cons rfl Kw.Sub.nil)))))) ?_
            refine Kw.WC_seq (fun K39 hK39 => ?_)
            refine Kw.WC_sched (fun ww => Kw.At ww g3 (cells8 h) 24 ∧ Kw.At ww g14 (cells8 zeros32) 24 ∧ True) [(0, true), (1, true), (2, true), (3, true), (4, true), (5, true), (6, true), (7, true), (8, true), (9, true), (10, true), (11, true), (12, true), (13, true), (14, true), (15, true), (16, true), (17, true), (18, true), (19, true), (20, true), (21, true), (22, true), (23, true), (24, true), (25, false), (26, true), (27, true)] [some 103, some 104, some 105, some 106, some 107, some 108, some 109, some 110, some 111, some 112, some 113, some 114, some 115, some 116, some 117, some 118, some 119, some 120, some 121, some 122, some 123, some 124, some 125, some 126, some 127, some 128, some 129, some 6] rfl (by kernel_rfl) rfl (by kernel_rfl) ?_
            obtain ⟨w40, hww40⟩ : ∃ x : World, x = Go.World.drew w29 := ⟨_, rfl⟩
            rw [← hww40]
            replace A_g3 : Kw.At w40 g3 (cells8 h) 24 := by rw [hww40]; exact A_g3
            replace A_g5 : Kw.At w40 g5 #[.int .u8 a0, .int .u8 a1] 31 := by rw [hww40]; exact A_g5
            replace A_g8 : Kw.At w40 g8 (cells8 h) 24 := by rw [hww40]; exact A_g8
            replace A_g10 : Kw.At w40 g10 (cells8 b) 24 := by rw [hww40]; exact A_g10
            replace A_g72 : Kw.At w40 g72 #[.int .u8 a1] 5 := by rw [hww40]; exact A_g72
            replace A_g14 : Kw.At w40 g14 (cells8 zeros32) 24 := by rw [hww40]; exact A_g14
            replace HB : Below w.heap.size w w40 := by rw [hww40]; exact HB.drew
            clear hww40
            have hS : Kw.At w40 g3 (cells8 h) 24 ∧ Kw.At w40 g14 (cells8 zeros32) 24 ∧ True := ⟨A_g3, A_g14, trivial⟩
            refine Kw.WX_take rfl rfl rfl rfl (fun _ _ _ h => h) hS (fun _ ⟨A_g3, A_g14, _⟩ => Kw.R_move rfl) ?_
            refine Kw.WX_take rfl rfl rfl rfl (fun _ _ _ h => h) hS (fun _ ⟨A_g3, A_g14, _⟩ => Kw.R_move rfl) ?_
            refine Kw.WX_take rfl rfl rfl rfl (fun _ _ _ h => h) hS (fun _ ⟨A_g3, A_g14, _⟩ => Kw.R_eqb rfl rfl Tryd.underlying4 rfl) ?_
            refine Kw.WX_take rfl rfl rfl rfl (fun _ _ _ h => h) hS (fun _ ⟨A_g3, A_g14, _⟩ => Kw.R_move rfl) ?_
            refine Kw.WX_take rfl rfl rfl rfl (fun _ _ _ h => h) hS (fun _ ⟨A_g3, A_g14, _⟩ => Kw.R_loadW rfl Tryd.underlying24 rfl (by rw [cells8_size]; first | (rw [hl]; exact F.sz24) | (rw [parse_length]; exact F.sz24) | (rw [lb]; exact F.sz24) | (rw [lc]; exact F.sz24) | exact F.sz24) A_g14) ?_
            refine Kw.WX_take rfl rfl rfl rfl (fun _ _ _ h => h) hS (fun _ ⟨A_g3, A_g14, _⟩ => Kw.R_loadW rfl Tryd.underlying24 rfl (by rw [cells8_size]; first | (rw [hl]; exact F.sz24) | (rw [parse_length]; exact F.sz24) | (rw [lb]; exact F.sz24) | (rw [lc]; exact F.sz24) | exact F.sz24) A_g3) ?_
            refine Kw.WX_take rfl rfl rfl rfl (fun _ _ _ h => h) hS (fun _ ⟨A_g3, A_g14, _⟩ => R_eqh rfl rfl rfl hl bytes_zeros hn hz) ?_
            refine Kw.WX_take rfl rfl rfl rfl (fun _ _ _ h => h) hS (fun _ ⟨A_g3, A_g14, _⟩ => Kw.R_move rfl) ?_
            refine Kw.WX_take rfl rfl rfl rfl (fun _ _ _ h => h) hS (fun _ ⟨A_g3, A_g14, _⟩ => Kw.R_move rfl) ?_
            refine Kw.WX_off rfl rfl rfl rfl (fun _ _ _ h => h) hS ?_
            refine Kw.WX_off rfl rfl rfl rfl (fun _ _ _ h => h) hS ?_
            refine Kw.WX_off rfl rfl rfl rfl (fun _ _ _ h => h) hS ?_
            refine Kw.WX_take rfl rfl rfl rfl (fun _ _ _ h => h) hS (fun _ ⟨A_g3, A_g14, _⟩ => Kw.R_pickf rfl rfl) ?_
            refine Kw.WX_take rfl rfl rfl rfl (fun _ _ _ h => h) hS (fun _ ⟨A_g3, A_g14, _⟩ => Kw.R_move rfl) ?_
            refine Kw.WX_take rfl rfl rfl rfl (fun _ _ _ h => h) hS (fun _ ⟨A_g3, A_g14, _⟩ => Kw.R_move rfl) ?_
            refine Kw.WX_take rfl rfl rfl rfl (fun _ _ _ h => h) hS (fun _ ⟨A_g3, A_g14, _⟩ => Kw.R_not rfl rfl) ?_
            refine Kw.WX_take rfl rfl rfl rfl (fun _ _ _ h => h) hS (fun _ ⟨A_g3, A_g14, _⟩ => Kw.R_move rfl) ?_
            refine Kw.WX_take rfl rfl rfl rfl (fun _ _ _ h => h) hS (fun _ ⟨A_g3, A_g14, _⟩ => Kw.R_loadW rfl Tryd.underlying24 rfl (by rw [cells8_size]; first | (rw [hl]; exact F.sz24) | (rw [parse_length]; exact F.sz24) | (rw [lb]; exact F.sz24) | (rw [lc]; exact F.sz24) | exact F.sz24) A_g3) ?_
            refine Kw.WX_take rfl rfl rfl rfl (fun _ _ _ h => h) hS (fun _ ⟨A_g3, A_g14, _⟩ => R_bh) ?_
            refine Kw.WX_take rfl rfl rfl rfl (fun _ _ _ h => h) hS (fun _ ⟨A_g3, A_g14, _⟩ => R_eqh rfl rfl hl rfl hn bytes_zeros ((decide_eq_decide.2 ⟨Eq.symm, Eq.symm⟩).trans hz)) ?_
            refine Kw.WX_take rfl rfl rfl rfl (fun _ _ _ h => h) hS (fun _ ⟨A_g3, A_g14, _⟩ => Kw.R_pickt rfl rfl) ?_
            refine Kw.WX_take rfl rfl rfl rfl (fun _ _ _ h => h) hS (fun _ ⟨A_g3, A_g14, _⟩ => Kw.R_pickf rfl rfl) ?_
            refine Kw.WX_take rfl rfl rfl rfl (fun _ _ _ h => h) hS (fun _ ⟨A_g3, A_g14, _⟩ => Kw.R_eqb (z := true) rfl rfl Tryd.underlying4 (by simp)) ?_
            refine Kw.WX_take rfl rfl rfl rfl (fun _ _ _ h => h) hS (fun _ ⟨A_g3, A_g14, _⟩ => Kw.R_pickt rfl rfl) ?_
            refine Kw.WX_take rfl rfl rfl rfl (fun _ _ _ h => h) hS (fun _ ⟨A_g3, A_g14, _⟩ => Kw.R_move rfl) ?_
            refine Kw.WX_callc rfl rfl rfl rfl rfl F.cl10 rfl (Ha _ HB) ?_; intro w42 bw42
            clear hS
            replace A_g3 := A_g3.call bw42
            replace A_g5 := A_g5.call bw42
            replace A_g8 := A_g8.call bw42
            replace A_g10 := A_g10.call bw42
            replace A_g72 := A_g72.call bw42
            replace A_g14 := A_g14.call bw42
            replace HB := Kw.Below.then HB (Nat.le_refl _) bw42
            have hS : Kw.At w42 g3 (cells8 h) 24 ∧ Kw.At w42 g14 (cells8 zeros32) 24 ∧ True := ⟨A_g3, A_g14, trivial⟩
            clear bw42
            refine ⟨hS, ?_⟩
            refine Kw.WX_take rfl rfl rfl rfl (fun _ _ _ h => h) hS (fun _ ⟨A_g3, A_g14, _⟩ => Kw.R_pickt rfl rfl) ?_
            refine Kw.WX_take rfl rfl rfl rfl (fun _ _ _ h => h) hS (fun _ ⟨A_g3, A_g14, _⟩ => Kw.R_assign rfl) ?_
            refine Kw.WX_nil ?_
            clear hS
            refine hK39 _ _ ?_; clear hK39 K39
            refine Kw.WC_sub (l' := [(6, .bool true)]) (Kw.Sub.cons rfl Kw.Sub.nil) ?_
            refine Kw.WC_ret ?_
            exact Kw.post_ret1 rfl rfl ⟨rfl, HB⟩
      ·
        refine Kw.WL_v rfl rfl rfl (Kw.R_geq (z := false) rfl rfl (decide_eq_false c31)) ?_
        refine Kw.WL_v rfl rfl rfl (Kw.R_move rfl) ?_
        refine Kw.WL_off rfl rfl rfl ?_
        refine Kw.WL_off rfl rfl rfl ?_
        refine Kw.WL_off rfl rfl rfl ?_
        refine Kw.WL_v rfl rfl rfl (Kw.R_pickf rfl rfl) ?_
        refine Kw.WL_v rfl rfl rfl (Kw.R_move rfl) ?_
        refine Kw.WL_v rfl rfl rfl (Kw.R_indexAddrA (i := 1) (o' := 1) rfl rfl Tryd.underlying31 F.sz5 (by decide) (rfl)) ?_
        refine Kw.WL_v rfl rfl rfl (Kw.R_load1 rfl Tryd.underlying5 rfl A_g5 rfl) ?_
        by_cases c43 : (97 : Int) ≤ a1
        ·
          refine Kw.WL_v rfl rfl rfl (Kw.R_geq (z := true) rfl rfl (decide_eq_true c43)) ?_
          refine Kw.WL_v rfl rfl rfl (Kw.R_move rfl) ?_
          refine Kw.WL_v rfl rfl rfl (Kw.R_indexAddrA (i := 1) (o' := 1) rfl rfl Tryd.underlying31 F.sz5 (by decide) (rfl)) ?_
          refine Kw.WL_v rfl rfl rfl (Kw.R_load1 rfl Tryd.underlying5 rfl A_g5 rfl) ?_
          by_cases c44 : (a1 : Int) ≤ 102
          ·
            refine Kw.WL_v rfl rfl rfl (Kw.R_leq (z := true) rfl rfl (decide_eq_true c44)) ?_
            refine Kw.WL_v rfl rfl rfl (Kw.R_pickt rfl rfl) ?_
            exfalso; first | exact digit_not_lo hdig (by assumption) | exact digit_not_mid hdig (by assumption) (by assumption) | exact digit_not_hi hdig (by assumption) | exact digit_is_num hdig (by assumption) (by assumption) | exact digit_is_let hdig (by assumption) (by assumption)
          ·
            refine Kw.WL_v rfl rfl rfl (Kw.R_leq (z := false) rfl rfl (decide_eq_false c44)) ?_
            refine Kw.WL_v rfl rfl rfl (Kw.R_pickt rfl rfl) ?_
            refine Kw.WL_v rfl rfl rfl (Kw.R_pickf rfl rfl) ?_
            refine Kw.WL_v rfl rfl rfl (Kw.R_assign rfl) ?_
            refine Kw.WL_nil ?_
            refine hK30 _ _ ?_; clear hK30 K30
            refine Kw.WC_sub (l' := [(3, .pointer (some ⟨g3, 0, none⟩)), (7, .string (hexS h)), (13, .string (putU (hexS h) k a1)), (14, .pointer (some ⟨g14, 0, none⟩)), (15, .bool false), (16, .bool false)]) (Kw.Sub.cons rfl (Kw.Sub.cons rfl (Kw.Sub.cons rfl (Kw.Sub.cons rfl (Kw.Sub.cons rfl (Kw.Sub.cons rfl Kw.Sub.nil)))))) ?_
            refine Kw.WC_seq (fun K45 hK45 => ?_)
            refine Kw.WC_sched (fun ww => Kw.At ww g3 (cells8 h) 24 ∧ Kw.At ww g14 (cells8 zeros32) 24 ∧ True) [(0, true), (1, true), (2, true), (3, true), (4, true), (5, true), (6, true), (7, true), (8, true), (9, true), (10, true), (11, true), (12, true), (13, true), (14, true), (15, true), (16, true), (17, true), (18, true), (19, true), (20, true), (21, true), (22, true), (23, true), (24, true), (25, false), (26, true), (27, true)] [some 103, some 104, some 105, some 106, some 107, some 108, some 109, some 110, some 111, some 112, some 113, some 114, some 115, some 116, some 117, some 118, some 119, some 120, some 121, some 122, some 123, some 124, some 125, some 126, some 127, some 128, some 129, some 6] rfl (by kernel_rfl) rfl (by kernel_rfl) ?_
            obtain ⟨w46, hww46⟩ : ∃ x : World, x = Go.World.drew w29 := ⟨_, rfl⟩
            rw [← hww46]
            replace A_g3 : Kw.At w46 g3 (cells8 h) 24 := by rw [hww46]; exact A_g3
            replace A_g5 : Kw.At w46 g5 #[.int .u8 a0, .int .u8 a1] 31 := by rw [hww46]; exact A_g5
            replace A_g8 : Kw.At w46 g8 (cells8 h) 24 := by rw [hww46]; exact A_g8
            replace A_g10 : Kw.At w46 g10 (cells8 b) 24 := by rw [hww46]; exact A_g10
            replace A_g72 : Kw.At w46 g72 #[.int .u8 a1] 5 := by rw [hww46]; exact A_g72
            replace A_g14 : Kw.At w46 g14 (cells8 zeros32) 24 := by rw [hww46]; exact A_g14
            replace HB : Below w.heap.size w w46 := by rw [hww46]; exact HB.drew
            clear hww46
            have hS : Kw.At w46 g3 (cells8 h) 24 ∧ Kw.At w46 g14 (cells8 zeros32) 24 ∧ True := ⟨A_g3, A_g14, trivial⟩
            refine Kw.WX_take rfl rfl rfl rfl (fun _ _ _ h => h) hS (fun _ ⟨A_g3, A_g14, _⟩ => Kw.R_move rfl) ?_
            refine Kw.WX_take rfl rfl rfl rfl (fun _ _ _ h => h) hS (fun _ ⟨A_g3, A_g14, _⟩ => Kw.R_move rfl) ?_
            refine Kw.WX_take rfl rfl rfl rfl (fun _ _ _ h => h) hS (fun _ ⟨A_g3, A_g14, _⟩ => Kw.R_eqb rfl rfl Tryd.underlying4 rfl) ?_
            refine Kw.WX_take rfl rfl rfl rfl (fun _ _ _ h => h) hS (fun _ ⟨A_g3, A_g14, _⟩ => Kw.R_move rfl) ?_
            refine Kw.WX_take rfl rfl rfl rfl (fun _ _ _ h => h) hS (fun _ ⟨A_g3, A_g14, _⟩ => Kw.R_loadW rfl Tryd.underlying24 rfl (by rw [cells8_size]; first | (rw [hl]; exact F.sz24) | (rw [parse_length]; exact F.sz24) | (rw [lb]; exact F.sz24) | (rw [lc]; exact F.sz24) | exact F.sz24) A_g14) ?_
            refine Kw.WX_take rfl rfl rfl rfl (fun _ _ _ h => h) hS (fun _ ⟨A_g3, A_g14, _⟩ => Kw.R_loadW rfl Tryd.underlying24 rfl (by rw [cells8_size]; first | (rw [hl]; exact F.sz24) | (rw [parse_length]; exact F.sz24) | (rw [lb]; exact F.sz24) | (rw [lc]; exact F.sz24) | exact F.sz24) A_g3) ?_
            refine Kw.WX_take rfl rfl rfl rfl (fun _ _ _ h => h) hS (fun _ ⟨A_g3, A_g14, _⟩ => R_eqh rfl rfl rfl hl bytes_zeros hn hz) ?_
            refine Kw.WX_take rfl rfl rfl rfl (fun _ _ _ h => h) hS (fun _ ⟨A_g3, A_g14, _⟩ => Kw.R_move rfl) ?_
            refine Kw.WX_take rfl rfl rfl rfl (fun _ _ _ h => h) hS (fun _ ⟨A_g3, A_g14, _⟩ => Kw.R_move rfl) ?_
            refine Kw.WX_off rfl rfl rfl rfl (fun _ _ _ h => h) hS ?_
            refine Kw.WX_off rfl rfl rfl rfl (fun _ _ _ h => h) hS ?_
            refine Kw.WX_off rfl rfl rfl rfl (fun _ _ _ h => h) hS ?_
            refine Kw.WX_take rfl rfl rfl rfl (fun _ _ _ h => h) hS (fun _ ⟨A_g3, A_g14, _⟩ => Kw.R_pickf rfl rfl) ?_
            refine Kw.WX_take rfl rfl rfl rfl (fun _ _ _ h => h) hS (fun _ ⟨A_g3, A_g14, _⟩ => Kw.R_move rfl) ?_
            refine Kw.WX_take rfl rfl rfl rfl (fun _ _ _ h => h) hS (fun _ ⟨A_g3, A_g14, _⟩ => Kw.R_move rfl) ?_
            refine Kw.WX_take rfl rfl rfl rfl (fun _ _ _ h => h) hS (fun _ ⟨A_g3, A_g14, _⟩ => Kw.R_not rfl rfl) ?_
            refine Kw.WX_take rfl rfl rfl rfl (fun _ _ _ h => h) hS (fun _ ⟨A_g3, A_g14, _⟩ => Kw.R_move rfl) ?_
            refine Kw.WX_take rfl rfl rfl rfl (fun _ _ _ h => h) hS (fun _ ⟨A_g3, A_g14, _⟩ => Kw.R_loadW rfl Tryd.underlying24 rfl (by rw [cells8_size]; first | (rw [hl]; exact F.sz24) | (rw [parse_length]; exact F.sz24) | (rw [lb]; exact F.sz24) | (rw [lc]; exact F.sz24) | exact F.sz24) A_g3) ?_
            refine Kw.WX_take rfl rfl rfl rfl (fun _ _ _ h => h) hS (fun _ ⟨A_g3, A_g14, _⟩ => R_bh) ?_
            refine Kw.WX_take rfl rfl rfl rfl (fun _ _ _ h => h) hS (fun _ ⟨A_g3, A_g14, _⟩ => R_eqh rfl rfl hl rfl hn bytes_zeros ((decide_eq_decide.2 ⟨Eq.symm, Eq.symm⟩).trans hz)) ?_
            refine Kw.WX_take rfl rfl rfl rfl (fun _ _ _ h => h) hS (fun _ ⟨A_g3, A_g14, _⟩ => Kw.R_pickt rfl rfl) ?_
            refine Kw.WX_take rfl rfl rfl rfl (fun _ _ _ h => h) hS (fun _ ⟨A_g3, A_g14, _⟩ => Kw.R_pickf rfl rfl) ?_
            refine Kw.WX_take rfl rfl rfl rfl (fun _ _ _ h => h) hS (fun _ ⟨A_g3, A_g14, _⟩ => Kw.R_eqb (z := true) rfl rfl Tryd.underlying4 (by simp)) ?_
            refine Kw.WX_take rfl rfl rfl rfl (fun _ _ _ h => h) hS (fun _ ⟨A_g3, A_g14, _⟩ => Kw.R_pickt rfl rfl) ?_
            refine Kw.WX_take rfl rfl rfl rfl (fun _ _ _ h => h) hS (fun _ ⟨A_g3, A_g14, _⟩ => Kw.R_move rfl) ?_
            refine Kw.WX_callc rfl rfl rfl rfl rfl F.cl10 rfl (Ha _ HB) ?_; intro w48 bw48
            clear hS
            replace A_g3 := A_g3.call bw48
            replace A_g5 := A_g5.call bw48
            replace A_g8 := A_g8.call bw48
            replace A_g10 := A_g10.call bw48
            replace A_g72 := A_g72.call bw48
            replace A_g14 := A_g14.call bw48
            replace HB := Kw.Below.then HB (Nat.le_refl _) bw48
            have hS : Kw.At w48 g3 (cells8 h) 24 ∧ Kw.At w48 g14 (cells8 zeros32) 24 ∧ True := ⟨A_g3, A_g14, trivial⟩
            clear bw48
            refine ⟨hS, ?_⟩
            refine Kw.WX_take rfl rfl rfl rfl (fun _ _ _ h => h) hS (fun _ ⟨A_g3, A_g14, _⟩ => Kw.R_pickt rfl rfl) ?_
            refine Kw.WX_take rfl rfl rfl rfl (fun _ _ _ h => h) hS (fun _ ⟨A_g3, A_g14, _⟩ => Kw.R_assign rfl) ?_
            refine Kw.WX_nil ?_
            clear hS
            refine hK45 _ _ ?_; clear hK45 K45
            refine Kw.WC_sub (l' := [(6, .bool true)]) (Kw.Sub.cons rfl Kw.Sub.nil) ?_
            refine Kw.WC_ret ?_
            exact Kw.post_ret1 rfl rfl ⟨rfl, HB⟩
        ·
          refine Kw.WL_v rfl rfl rfl (Kw.R_geq (z := false) rfl rfl (decide_eq_false c43)) ?_
          refine Kw.WL_v rfl rfl rfl (Kw.R_move rfl) ?_
          refine Kw.WL_off rfl rfl rfl ?_
          refine Kw.WL_off rfl rfl rfl ?_
          refine Kw.WL_off rfl rfl rfl ?_
          refine Kw.WL_v rfl rfl rfl (Kw.R_pickf rfl rfl) ?_
          refine Kw.WL_v rfl rfl rfl (Kw.R_pickf rfl rfl) ?_
          refine Kw.WL_v rfl rfl rfl (Kw.R_assign rfl) ?_
          refine Kw.WL_nil ?_
          refine hK30 _ _ ?_; clear hK30 K30
          refine Kw.WC_sub (l' := [(3, .pointer (some ⟨g3, 0, none⟩)), (7, .string (hexS h)), (13, .string (putU (hexS h) k a1)), (14, .pointer (some ⟨g14, 0, none⟩)), (15, .bool false), (16, .bool false)]) (Kw.Sub.cons rfl (Kw.Sub.cons rfl (Kw.Sub.cons rfl (Kw.Sub.cons rfl (Kw.Sub.cons rfl (Kw.Sub.cons rfl Kw.Sub.nil)))))) ?_
          refine Kw.WC_seq (fun K49 hK49 => ?_)
          refine Kw.WC_sched (fun ww => Kw.At ww g3 (cells8 h) 24 ∧ Kw.At ww g14 (cells8 zeros32) 24 ∧ True) [(0, true), (1, true), (2, true), (3, true), (4, true), (5, true), (6, true), (7, true), (8, true), (9, true), (10, true), (11, true), (12, true), (13, true), (14, true), (15, true), (16, true), (17, true), (18, true), (19, true), (20, true), (21, true), (22, true), (23, true), (24, true), (25, false), (26, true), (27, true)] [some 103, some 104, some 105, some 106, some 107, some 108, some 109, some 110, some 111, some 112, some 113, some 114, some 115, some 116, some 117, some 118, some 119, some 120, some 121, some 122, some 123, some 124, some 125, some 126, some 127, some 128, some 129, some 6] rfl (by kernel_rfl) rfl (by kernel_rfl) ?_
          obtain ⟨w50, hww50⟩ : ∃ x : World, x = Go.World.drew w29 := ⟨_, rfl⟩
          rw [← hww50]
          replace A_g3 : Kw.At w50 g3 (cells8 h) 24 := by rw [hww50]; exact A_g3
          replace A_g5 : Kw.At w50 g5 #[.int .u8 a0, .int .u8 a1] 31 := by rw [hww50]; exact A_g5
          replace A_g8 : Kw.At w50 g8 (cells8 h) 24 := by rw [hww50]; exact A_g8
          replace A_g10 : Kw.At w50 g10 (cells8 b) 24 := by rw [hww50]; exact A_g10
          replace A_g72 : Kw.At w50 g72 #[.int .u8 a1] 5 := by rw [hww50]; exact A_g72
          replace A_g14 : Kw.At w50 g14 (cells8 zeros32) 24 := by rw [hww50]; exact A_g14
          replace HB : Below w.heap.size w w50 := by rw [hww50]; exact HB.drew
          clear hww50
          have hS : Kw.At w50 g3 (cells8 h) 24 ∧ Kw.At w50 g14 (cells8 zeros32) 24 ∧ True := ⟨A_g3, A_g14, trivial⟩
          refine Kw.WX_take rfl rfl rfl rfl (fun _ _ _ h => h) hS (fun _ ⟨A_g3, A_g14, _⟩ => Kw.R_move rfl) ?_
          refine Kw.WX_take rfl rfl rfl rfl (fun _ _ _ h => h) hS (fun _ ⟨A_g3, A_g14, _⟩ => Kw.R_move rfl) ?_
          refine Kw.WX_take rfl rfl rfl rfl (fun _ _ _ h => h) hS (fun _ ⟨A_g3, A_g14, _⟩ => Kw.R_eqb rfl rfl Tryd.underlying4 rfl) ?_
          refine Kw.WX_take rfl rfl rfl rfl (fun _ _ _ h => h) hS (fun _ ⟨A_g3, A_g14, _⟩ => Kw.R_move rfl) ?_
          refine Kw.WX_take rfl rfl rfl rfl (fun _ _ _ h => h) hS (fun _ ⟨A_g3, A_g14, _⟩ => Kw.R_loadW rfl Tryd.underlying24 rfl (by rw [cells8_size]; first | (rw [hl]; exact F.sz24) | (rw [parse_length]; exact F.sz24) | (rw [lb]; exact F.sz24) | (rw [lc]; exact F.sz24) | exact F.sz24) A_g14) ?_
          refine Kw.WX_take rfl rfl rfl rfl (fun _ _ _ h => h) hS (fun _ ⟨A_g3, A_g14, _⟩ => Kw.R_loadW rfl Tryd.underlying24 rfl (by rw [cells8_size]; first | (rw [hl]; exact F.sz24) | (rw [parse_length]; exact F.sz24) | (rw [lb]; exact F.sz24) | (rw [lc]; exact F.sz24) | exact F.sz24) A_g3) ?_
          refine Kw.WX_take rfl rfl rfl rfl (fun _ _ _ h => h) hS (fun _ ⟨A_g3, A_g14, _⟩ => R_eqh rfl rfl rfl hl bytes_zeros hn hz) ?_
          refine Kw.WX_take rfl rfl rfl rfl (fun _ _ _ h => h) hS (fun _ ⟨A_g3, A_g14, _⟩ => Kw.R_move rfl) ?_
          refine Kw.WX_take rfl rfl rfl rfl (fun _ _ _ h => h) hS (fun _ ⟨A_g3, A_g14, _⟩ => Kw.R_move rfl) ?_
          refine Kw.WX_off rfl rfl rfl rfl (fun _ _ _ h => h) hS ?_
          refine Kw.WX_off rfl rfl rfl rfl (fun _ _ _ h => h) hS ?_
          refine Kw.WX_off rfl rfl rfl rfl (fun _ _ _ h => h) hS ?_
          refine Kw.WX_take rfl rfl rfl rfl (fun _ _ _ h => h) hS (fun _ ⟨A_g3, A_g14, _⟩ => Kw.R_pickf rfl rfl) ?_
          refine Kw.WX_take rfl rfl rfl rfl (fun _ _ _ h => h) hS (fun _ ⟨A_g3, A_g14, _⟩ => Kw.R_move rfl) ?_
          refine Kw.WX_take rfl rfl rfl rfl (fun _ _ _ h => h) hS (fun _ ⟨A_g3, A_g14, _⟩ => Kw.R_move rfl) ?_
          refine Kw.WX_take rfl rfl rfl rfl (fun _ _ _ h => h) hS (fun _ ⟨A_g3, A_g14, _⟩ => Kw.R_not rfl rfl) ?_
          refine Kw.WX_take rfl rfl rfl rfl (fun _ _ _ h => h) hS (fun _ ⟨A_g3, A_g14, _⟩ => Kw.R_move rfl) ?_
          refine Kw.WX_take rfl rfl rfl rfl (fun _ _ _ h => h) hS (fun _ ⟨A_g3, A_g14, _⟩ => Kw.R_loadW rfl Tryd.underlying24 rfl (by rw [cells8_size]; first | (rw [hl]; exact F.sz24) | (rw [parse_length]; exact F.sz24) | (rw [lb]; exact F.sz24) | (rw [lc]; exact F.sz24) | exact F.sz24) A_g3) ?_
          refine Kw.WX_take rfl rfl rfl rfl (fun _ _ _ h => h) hS (fun _ ⟨A_g3, A_g14, _⟩ => R_bh) ?_
          refine Kw.WX_take rfl rfl rfl rfl (fun _ _ _ h => h) hS (fun _ ⟨A_g3, A_g14, _⟩ => R_eqh rfl rfl hl rfl hn bytes_zeros ((decide_eq_decide.2 ⟨Eq.symm, Eq.symm⟩).trans hz)) ?_
          refine Kw.WX_take rfl rfl rfl rfl (fun _ _ _ h => h) hS (fun _ ⟨A_g3, A_g14, _⟩ => Kw.R_pickt rfl rfl) ?_
          refine Kw.WX_take rfl rfl rfl rfl (fun _ _ _ h => h) hS (fun _ ⟨A_g3, A_g14, _⟩ => Kw.R_pickf rfl rfl) ?_
          refine Kw.WX_take rfl rfl rfl rfl (fun _ _ _ h => h) hS (fun _ ⟨A_g3, A_g14, _⟩ => Kw.R_eqb (z := true) rfl rfl Tryd.underlying4 (by simp)) ?_
          refine Kw.WX_take rfl rfl rfl rfl (fun _ _ _ h => h) hS (fun _ ⟨A_g3, A_g14, _⟩ => Kw.R_pickt rfl rfl) ?_
          refine Kw.WX_take rfl rfl rfl rfl (fun _ _ _ h => h) hS (fun _ ⟨A_g3, A_g14, _⟩ => Kw.R_move rfl) ?_
          refine Kw.WX_callc rfl rfl rfl rfl rfl F.cl10 rfl (Ha _ HB) ?_; intro w52 bw52
          clear hS
          replace A_g3 := A_g3.call bw52
          replace A_g5 := A_g5.call bw52
          replace A_g8 := A_g8.call bw52
          replace A_g10 := A_g10.call bw52
          replace A_g72 := A_g72.call bw52
          replace A_g14 := A_g14.call bw52
          replace HB := Kw.Below.then HB (Nat.le_refl _) bw52
          have hS : Kw.At w52 g3 (cells8 h) 24 ∧ Kw.At w52 g14 (cells8 zeros32) 24 ∧ True := ⟨A_g3, A_g14, trivial⟩
          clear bw52
          refine ⟨hS, ?_⟩
          refine Kw.WX_take rfl rfl rfl rfl (fun _ _ _ h => h) hS (fun _ ⟨A_g3, A_g14, _⟩ => Kw.R_pickt rfl rfl) ?_
          refine Kw.WX_take rfl rfl rfl rfl (fun _ _ _ h => h) hS (fun _ ⟨A_g3, A_g14, _⟩ => Kw.R_assign rfl) ?_
          refine Kw.WX_nil ?_
          clear hS
          refine hK49 _ _ ?_; clear hK49 K49
          refine Kw.WC_sub (l' := [(6, .bool true)]) (Kw.Sub.cons rfl Kw.Sub.nil) ?_
          refine Kw.WC_ret ?_
          exact Kw.post_ret1 rfl rfl ⟨rfl, HB⟩
    ·
      refine Kw.WL_callc rfl rfl rfl rfl F.cl13 rfl (parse_S _ c hod _) ?_; intro w53 bw53
      replace A_g3 := A_g3.call bw53
      replace A_g5 := A_g5.call bw53
      replace A_g8 := A_g8.call bw53
      replace A_g10 := A_g10.call bw53
      replace A_g72 := A_g72.call bw53
      replace HB := Kw.Below.then HB (Nat.le_refl _) bw53
      clear bw53
      obtain ⟨z, hz⟩ : ∃ z, decide (c = h) = z := ⟨_, rfl⟩
      refine Kw.WL_v rfl rfl rfl (Kw.R_move rfl) ?_
      refine Kw.WL_v rfl rfl rfl (Kw.R_extract rfl rfl) ?_
      refine Kw.WL_v rfl rfl rfl (Kw.R_extract rfl rfl) ?_
      refine Kw.WL_alloc rfl rfl F.zr24 ?_; intro g14 w54 N_g14
      have L_g3_g14 := N_g14.ne A_g3; replace A_g3 := N_g14.keep A_g3
      have L_g5_g14 := N_g14.ne A_g5; replace A_g5 := N_g14.keep A_g5
      have L_g8_g14 := N_g14.ne A_g8; replace A_g8 := N_g14.keep A_g8
      have L_g10_g14 := N_g14.ne A_g10; replace A_g10 := N_g14.keep A_g10
      have L_g72_g14 := N_g14.ne A_g72; replace A_g72 := N_g14.keep A_g72
      have A_g14 : Kw.At w54 g14 F.Z24 24 := N_g14.at_
      have G_g14 := N_g14.ge HB (Nat.le_refl _); replace HB := N_g14.below HB (Nat.le_refl _); clear N_g14
      refine Kw.WL_storeW rfl rfl rfl (by rw [cells8_size]; first | (rw [hl]; exact F.sz24) | (rw [parse_length]; exact F.sz24) | (rw [lb]; exact F.sz24) | (rw [lc]; exact F.sz24) | exact F.sz24) A_g14 (by rw [cells8_size]; first | (rw [hl]; rfl) | (rw [parse_length]; rfl) | (rw [lb]; rfl) | (rw [lc]; rfl) | rfl) (by simpa using cells8_one _) ?_; intro w55 M_g14
      replace A_g3 := M_g14.keep A_g3 (Nat.ne_of_lt L_g3_g14)
      replace A_g5 := M_g14.keep A_g5 (Nat.ne_of_lt L_g5_g14)
      replace A_g8 := M_g14.keep A_g8 (Nat.ne_of_lt L_g8_g14)
      replace A_g10 := M_g14.keep A_g10 (Nat.ne_of_lt L_g10_g14)
      replace A_g72 := M_g14.keep A_g72 (Nat.ne_of_lt L_g72_g14)
      replace A_g14 : Kw.At w55 g14 (cells8 c) 24 := M_g14.at_ A_g14
      replace HB := M_g14.below HB G_g14; clear M_g14
      refine Kw.WL_v rfl rfl rfl (Kw.R_assign rfl) ?_
      refine Kw.WL_nil ?_
      refine hK26 _ _ ?_; clear hK26 K26
      refine Kw.WC_seq (fun K56 hK56 => ?_)
      refine Kw.WC_region [some 85, some 86, some 87, some 88, some 89, some 90, some 91, some 92, some 93, some 94, some 95, some 96, some 97, some 98, some 99, some 100, some 101, some 102, some 16] rfl ?_
      refine Kw.WL_v rfl rfl rfl (Kw.R_indexAddrA (i := 1) (o' := 1) rfl rfl Tryd.underlying31 F.sz5 (by decide) (rfl)) ?_
      refine Kw.WL_v rfl rfl rfl (Kw.R_load1 rfl Tryd.underlying5 rfl A_g5 rfl) ?_
      by_cases c57 : (48 : Int) ≤ a1
      ·
        refine Kw.WL_v rfl rfl rfl (Kw.R_geq (z := true) rfl rfl (decide_eq_true c57)) ?_
        refine Kw.WL_v rfl rfl rfl (Kw.R_move rfl) ?_
        refine Kw.WL_v rfl rfl rfl (Kw.R_indexAddrA (i := 1) (o' := 1) rfl rfl Tryd.underlying31 F.sz5 (by decide) (rfl)) ?_
        refine Kw.WL_v rfl rfl rfl (Kw.R_load1 rfl Tryd.underlying5 rfl A_g5 rfl) ?_
        by_cases c58 : (a1 : Int) ≤ 57
        ·
          refine Kw.WL_v rfl rfl rfl (Kw.R_leq (z := true) rfl rfl (decide_eq_true c58)) ?_
          refine Kw.WL_v rfl rfl rfl (Kw.R_pickt rfl rfl) ?_
          refine Kw.WL_v rfl rfl rfl (Kw.R_move rfl) ?_
          refine Kw.WL_off rfl rfl rfl ?_
          refine Kw.WL_off rfl rfl rfl ?_
          refine Kw.WL_off rfl rfl rfl ?_
          refine Kw.WL_off rfl rfl rfl ?_
          refine Kw.WL_off rfl rfl rfl ?_
          refine Kw.WL_off rfl rfl rfl ?_
          refine Kw.WL_off rfl rfl rfl ?_
          refine Kw.WL_off rfl rfl rfl ?_
          refine Kw.WL_v rfl rfl rfl (Kw.R_pickt rfl rfl) ?_
          refine Kw.WL_v rfl rfl rfl (Kw.R_assign rfl) ?_
          refine Kw.WL_nil ?_
          refine hK56 _ _ ?_; clear hK56 K56
          refine Kw.WC_sub (l' := [(3, .pointer (some ⟨g3, 0, none⟩)), (7, .string (hexS h)), (13, .string (putU (hexS h) k a1)), (14, .pointer (some ⟨g14, 0, none⟩)), (15, .bool true), (16, .bool true)]) (Kw.Sub.cons rfl (Kw.Sub.cons rfl (Kw.Sub.cons rfl (Kw.Sub.cons rfl (Kw.Sub.cons rfl (Kw.Sub.cons rfl Kw.Sub.nil)))))) ?_
          refine Kw.WC_seq (fun K59 hK59 => ?_)
          refine Kw.WC_sched (fun ww => Kw.At ww g3 (cells8 h) 24 ∧ Kw.At ww g14 (cells8 c) 24 ∧ True) [(0, true), (1, true), (2, true), (3, true), (4, true), (5, true), (6, true), (7, true), (8, true), (9, true), (10, true), (11, true), (12, true), (13, true), (14, true), (15, true), (16, true), (17, true), (18, true), (19, true), (20, true), (21, true), (22, true), (23, true), (24, true), (25, false), (26, true), (27, true)] [some 103, some 104, some 105, some 106, some 107, some 108, some 109, some 110, some 111, some 112, some 113, some 114, some 115, some 116, some 117, some 118, some 119, some 120, some 121, some 122, some 123, some 124, some 125, some 126, some 127, some 128, some 129, some 6] rfl (by kernel_rfl) rfl (by kernel_rfl) ?_
          obtain ⟨w60, hww60⟩ : ∃ x : World, x = Go.World.drew w55 := ⟨_, rfl⟩
          rw [← hww60]
          replace A_g3 : Kw.At w60 g3 (cells8 h) 24 := by rw [hww60]; exact A_g3
          replace A_g5 : Kw.At w60 g5 #[.int .u8 a0, .int .u8 a1] 31 := by rw [hww60]; exact A_g5
          replace A_g8 : Kw.At w60 g8 (cells8 h) 24 := by rw [hww60]; exact A_g8
          replace A_g10 : Kw.At w60 g10 (cells8 b) 24 := by rw [hww60]; exact A_g10
          replace A_g72 : Kw.At w60 g72 #[.int .u8 a1] 5 := by rw [hww60]; exact A_g72
          replace A_g14 : Kw.At w60 g14 (cells8 c) 24 := by rw [hww60]; exact A_g14
          replace HB : Below w.heap.size w w60 := by rw [hww60]; exact HB.drew
          clear hww60
          have hS : Kw.At w60 g3 (cells8 h) 24 ∧ Kw.At w60 g14 (cells8 c) 24 ∧ True := ⟨A_g3, A_g14, trivial⟩
          refine Kw.WX_take rfl rfl rfl rfl (fun _ _ _ h => h) hS (fun _ ⟨A_g3, A_g14, _⟩ => Kw.R_move rfl) ?_
          refine Kw.WX_take rfl rfl rfl rfl (fun _ _ _ h => h) hS (fun _ ⟨A_g3, A_g14, _⟩ => Kw.R_move rfl) ?_
          refine Kw.WX_take rfl rfl rfl rfl (fun _ _ _ h => h) hS (fun _ ⟨A_g3, A_g14, _⟩ => Kw.R_eqb rfl rfl Tryd.underlying4 rfl) ?_
          refine Kw.WX_take rfl rfl rfl rfl (fun _ _ _ h => h) hS (fun _ ⟨A_g3, A_g14, _⟩ => Kw.R_move rfl) ?_
          refine Kw.WX_take rfl rfl rfl rfl (fun _ _ _ h => h) hS (fun _ ⟨A_g3, A_g14, _⟩ => Kw.R_loadW rfl Tryd.underlying24 rfl (by rw [cells8_size]; first | (rw [hl]; exact F.sz24) | (rw [parse_length]; exact F.sz24) | (rw [lb]; exact F.sz24) | (rw [lc]; exact F.sz24) | exact F.sz24) A_g14) ?_
          refine Kw.WX_take rfl rfl rfl rfl (fun _ _ _ h => h) hS (fun _ ⟨A_g3, A_g14, _⟩ => Kw.R_loadW rfl Tryd.underlying24 rfl (by rw [cells8_size]; first | (rw [hl]; exact F.sz24) | (rw [parse_length]; exact F.sz24) | (rw [lb]; exact F.sz24) | (rw [lc]; exact F.sz24) | exact F.sz24) A_g3) ?_
          refine Kw.WX_take rfl rfl rfl rfl (fun _ _ _ h => h) hS (fun _ ⟨A_g3, A_g14, _⟩ => R_eqh rfl rfl lc hl bc hn hz) ?_
          refine Kw.WX_take rfl rfl rfl rfl (fun _ _ _ h => h) hS (fun _ ⟨A_g3, A_g14, _⟩ => Kw.R_move rfl) ?_
          refine Kw.WX_take rfl rfl rfl rfl (fun _ _ _ h => h) hS (fun _ ⟨A_g3, A_g14, _⟩ => Kw.R_move rfl) ?_
          refine Kw.WX_take rfl rfl rfl rfl (fun _ _ _ h => h) hS (fun _ ⟨A_g3, A_g14, _⟩ => Kw.R_move rfl) ?_
          refine Kw.WX_take rfl rfl rfl rfl (fun _ _ _ h => h) hS (fun _ ⟨A_g3, A_g14, _⟩ => Kw.R_move rfl) ?_
          refine Kw.WX_take rfl rfl rfl rfl (fun _ _ _ h => h) hS (fun _ ⟨A_g3, A_g14, _⟩ => Kw.R_eqs rfl rfl ((decide_eq_decide.2 hcu).trans hz)) ?_
          refine Kw.WX_take rfl rfl rfl rfl (fun _ _ _ h => h) hS (fun _ ⟨A_g3, A_g14, _⟩ => Kw.R_pickt rfl rfl) ?_
          cases z
          ·
            refine Kw.WX_take rfl rfl rfl rfl (fun _ _ _ h => h) hS (fun _ ⟨A_g3, A_g14, _⟩ => Kw.R_move rfl) ?_
            refine Kw.WX_take rfl rfl rfl rfl (fun _ _ _ h => h) hS (fun _ ⟨A_g3, A_g14, _⟩ => Kw.R_move rfl) ?_
            refine Kw.WX_take rfl rfl rfl rfl (fun _ _ _ h => h) hS (fun _ ⟨A_g3, A_g14, _⟩ => Kw.R_not rfl rfl) ?_
            refine Kw.WX_take rfl rfl rfl rfl (fun _ _ _ h => h) hS (fun _ ⟨A_g3, A_g14, _⟩ => Kw.R_move rfl) ?_
            refine Kw.WX_off rfl rfl rfl rfl (fun _ _ _ h => h) hS ?_
            refine Kw.WX_off rfl rfl rfl rfl (fun _ _ _ h => h) hS ?_
            refine Kw.WX_off rfl rfl rfl rfl (fun _ _ _ h => h) hS ?_
            refine Kw.WX_take rfl rfl rfl rfl (fun _ _ _ h => h) hS (fun _ ⟨A_g3, A_g14, _⟩ => Kw.R_pickf rfl rfl) ?_
            refine Kw.WX_take rfl rfl rfl rfl (fun _ _ _ h => h) hS (fun _ ⟨A_g3, A_g14, _⟩ => Kw.R_pickf rfl rfl) ?_
            refine Kw.WX_take rfl rfl rfl rfl (fun _ _ _ h => h) hS (fun _ ⟨A_g3, A_g14, _⟩ => Kw.R_eqb rfl rfl Tryd.underlying4 rfl) ?_
            refine Kw.WX_take rfl rfl rfl rfl (fun _ _ _ h => h) hS (fun _ ⟨A_g3, A_g14, _⟩ => Kw.R_pickt rfl rfl) ?_
            refine Kw.WX_take rfl rfl rfl rfl (fun _ _ _ h => h) hS (fun _ ⟨A_g3, A_g14, _⟩ => Kw.R_move rfl) ?_
            refine Kw.WX_callc rfl rfl rfl rfl rfl F.cl10 rfl (Ha _ HB) ?_; intro w63 bw63
            clear hS
            replace A_g3 := A_g3.call bw63
            replace A_g5 := A_g5.call bw63
            replace A_g8 := A_g8.call bw63
            replace A_g10 := A_g10.call bw63
            replace A_g72 := A_g72.call bw63
            replace A_g14 := A_g14.call bw63
            replace HB := Kw.Below.then HB (Nat.le_refl _) bw63
            have hS : Kw.At w63 g3 (cells8 h) 24 ∧ Kw.At w63 g14 (cells8 c) 24 ∧ True := ⟨A_g3, A_g14, trivial⟩
            clear bw63
            refine ⟨hS, ?_⟩
            refine Kw.WX_take rfl rfl rfl rfl (fun _ _ _ h => h) hS (fun _ ⟨A_g3, A_g14, _⟩ => Kw.R_pickt rfl rfl) ?_
            refine Kw.WX_take rfl rfl rfl rfl (fun _ _ _ h => h) hS (fun _ ⟨A_g3, A_g14, _⟩ => Kw.R_assign rfl) ?_
            refine Kw.WX_nil ?_
            clear hS
            refine hK59 _ _ ?_; clear hK59 K59
            refine Kw.WC_sub (l' := [(6, .bool true)]) (Kw.Sub.cons rfl Kw.Sub.nil) ?_
            refine Kw.WC_ret ?_
            exact Kw.post_ret1 rfl rfl ⟨rfl, HB⟩
          ·
            refine Kw.WX_take rfl rfl rfl rfl (fun _ _ _ h => h) hS (fun _ ⟨A_g3, A_g14, _⟩ => Kw.R_move rfl) ?_
            refine Kw.WX_off rfl rfl rfl rfl (fun _ _ _ h => h) hS ?_
            refine Kw.WX_off rfl rfl rfl rfl (fun _ _ _ h => h) hS ?_
            refine Kw.WX_off rfl rfl rfl rfl (fun _ _ _ h => h) hS ?_
            refine Kw.WX_off rfl rfl rfl rfl (fun _ _ _ h => h) hS ?_
            refine Kw.WX_off rfl rfl rfl rfl (fun _ _ _ h => h) hS ?_
            refine Kw.WX_off rfl rfl rfl rfl (fun _ _ _ h => h) hS ?_
            refine Kw.WX_off rfl rfl rfl rfl (fun _ _ _ h => h) hS ?_
            refine Kw.WX_take rfl rfl rfl rfl (fun _ _ _ h => h) hS (fun _ ⟨A_g3, A_g14, _⟩ => Kw.R_pickt rfl rfl) ?_
            refine Kw.WX_take rfl rfl rfl rfl (fun _ _ _ h => h) hS (fun _ ⟨A_g3, A_g14, _⟩ => Kw.R_eqb rfl rfl Tryd.underlying4 rfl) ?_
            refine Kw.WX_take rfl rfl rfl rfl (fun _ _ _ h => h) hS (fun _ ⟨A_g3, A_g14, _⟩ => Kw.R_pickt rfl rfl) ?_
            refine Kw.WX_take rfl rfl rfl rfl (fun _ _ _ h => h) hS (fun _ ⟨A_g3, A_g14, _⟩ => Kw.R_move rfl) ?_
            refine Kw.WX_callc rfl rfl rfl rfl rfl F.cl10 rfl (Ha _ HB) ?_; intro w65 bw65
            clear hS
            replace A_g3 := A_g3.call bw65
            replace A_g5 := A_g5.call bw65
            replace A_g8 := A_g8.call bw65
            replace A_g10 := A_g10.call bw65
            replace A_g72 := A_g72.call bw65
            replace A_g14 := A_g14.call bw65
            replace HB := Kw.Below.then HB (Nat.le_refl _) bw65
            have hS : Kw.At w65 g3 (cells8 h) 24 ∧ Kw.At w65 g14 (cells8 c) 24 ∧ True := ⟨A_g3, A_g14, trivial⟩
            clear bw65
            refine ⟨hS, ?_⟩
            refine Kw.WX_take rfl rfl rfl rfl (fun _ _ _ h => h) hS (fun _ ⟨A_g3, A_g14, _⟩ => Kw.R_pickt rfl rfl) ?_
            refine Kw.WX_take rfl rfl rfl rfl (fun _ _ _ h => h) hS (fun _ ⟨A_g3, A_g14, _⟩ => Kw.R_assign rfl) ?_
            refine Kw.WX_nil ?_
            clear hS
            refine hK59 _ _ ?_; clear hK59 K59
            refine Kw.WC_sub (l' := [(6, .bool true)]) (Kw.Sub.cons rfl Kw.Sub.nil) ?_
            refine Kw.WC_ret ?_
            exact Kw.post_ret1 rfl rfl ⟨rfl, HB⟩
        ·
          refine Kw.WL_v rfl rfl rfl (Kw.R_leq (z := false) rfl rfl (decide_eq_false c58)) ?_
          refine Kw.WL_v rfl rfl rfl (Kw.R_pickt rfl rfl) ?_
          refine Kw.WL_v rfl rfl rfl (Kw.R_move rfl) ?_
          refine Kw.WL_v rfl rfl rfl (Kw.R_indexAddrA (i := 1) (o' := 1) rfl rfl Tryd.underlying31 F.sz5 (by decide) (rfl)) ?_
          refine Kw.WL_v rfl rfl rfl (Kw.R_load1 rfl Tryd.underlying5 rfl A_g5 rfl) ?_
          by_cases c66 : (97 : Int) ≤ a1
          ·
            refine Kw.WL_v rfl rfl rfl (Kw.R_geq (z := true) rfl rfl (decide_eq_true c66)) ?_
            refine Kw.WL_v rfl rfl rfl (Kw.R_move rfl) ?_
            refine Kw.WL_v rfl rfl rfl (Kw.R_indexAddrA (i := 1) (o' := 1) rfl rfl Tryd.underlying31 F.sz5 (by decide) (rfl)) ?_
            refine Kw.WL_v rfl rfl rfl (Kw.R_load1 rfl Tryd.underlying5 rfl A_g5 rfl) ?_
            by_cases c67 : (a1 : Int) ≤ 102
            ·
              refine Kw.WL_v rfl rfl rfl (Kw.R_leq (z := true) rfl rfl (decide_eq_true c67)) ?_
              refine Kw.WL_v rfl rfl rfl (Kw.R_pickt rfl rfl) ?_
              refine Kw.WL_v rfl rfl rfl (Kw.R_pickf rfl rfl) ?_
              refine Kw.WL_v rfl rfl rfl (Kw.R_assign rfl) ?_
              refine Kw.WL_nil ?_
              refine hK56 _ _ ?_; clear hK56 K56
              refine Kw.WC_sub (l' := [(3, .pointer (some ⟨g3, 0, none⟩)), (7, .string (hexS h)), (13, .string (putU (hexS h) k a1)), (14, .pointer (some ⟨g14, 0, none⟩)), (15, .bool true), (16, .bool true)]) (Kw.Sub.cons rfl (Kw.Sub.cons rfl (Kw.Sub.cons rfl (Kw.Sub.cons rfl (Kw.Sub.cons rfl (Kw.Sub.cons rfl Kw.Sub.nil)))))) ?_
              refine Kw.WC_seq (fun K68 hK68 => ?_)
              refine Kw.WC_sched (fun ww => Kw.At ww g3 (cells8 h) 24 ∧ Kw.At ww g14 (cells8 c) 24 ∧ True) [(0, true), (1, true), (2, true), (3, true), (4, true), (5, true), (6, true), (7, true), (8, true), (9, true), (10, true), (11, true), (12, true), (13, true), (14, true), (15, true), (16, true), (17, true), (18, true), (19, true), (20, true), (21, true), (22, true), (23, true), (24, true), (25, false), (26, true), (27, true)] [some 103, some 104, some 105, some 106, some 107, some 108, some 109, some 110, some 111, some 112, some 113, some 114, some 115, some 116, some 117, some 118, some 119, some 120, some 121, some 122, some 123, some 124, some 125, some 126, some 127, some 128, some 129, some 6] rfl (by kernel_rfl) rfl (by kernel_rfl) ?_
              obtain ⟨w69, hww69⟩ : ∃ x : World, x = Go.World.drew w55 := ⟨_, rfl⟩
              rw [← hww69]
              replace A_g3 : Kw.At w69 g3 (cells8 h) 24 := by rw [hww69]; exact A_g3
              replace A_g5 : Kw.At w69 g5 #[.int .u8 a0, .int .u8 a1] 31 := by rw [hww69]; exact A_g5
              replace A_g8 : Kw.At w69 g8 (cells8 h) 24 := by rw [hww69]; exact A_g8
              replace A_g10 : Kw.At w69 g10 (cells8 b) 24 := by rw [hww69]; exact A_g10
              replace A_g72 : Kw.At w69 g72 #[.int .u8 a1] 5 := by rw [hww69]; exact A_g72
              replace A_g14 : Kw.At w69 g14 (cells8 c) 24 := by rw [hww69]; exact A_g14
              replace HB : Below w.heap.size w w69 := by rw [hww69]; exact HB.drew
              clear hww69
              have hS : Kw.At w69 g3 (cells8 h) 24 ∧ Kw.At w69 g14 (cells8 c) 24 ∧ True := ⟨A_g3, A_g14, trivial⟩
              refine Kw.WX_take rfl rfl rfl rfl (fun _ _ _ h => h) hS (fun _ ⟨A_g3, A_g14, _⟩ => Kw.R_move rfl) ?_
              refine Kw.WX_take rfl rfl rfl rfl (fun _ _ _ h => h) hS (fun _ ⟨A_g3, A_g14, _⟩ => Kw.R_move rfl) ?_
              refine Kw.WX_take rfl rfl rfl rfl (fun _ _ _ h => h) hS (fun _ ⟨A_g3, A_g14, _⟩ => Kw.R_eqb rfl rfl Tryd.underlying4 rfl) ?_
              refine Kw.WX_take rfl rfl rfl rfl (fun _ _ _ h => h) hS (fun _ ⟨A_g3, A_g14, _⟩ => Kw.R_move rfl) ?_
              refine Kw.WX_take rfl rfl rfl rfl (fun _ _ _ h => h) hS (fun _ ⟨A_g3, A_g14, _⟩ => Kw.R_loadW rfl Tryd.underlying24 rfl (by rw [cells8_size]; first | (rw [hl]; exact F.sz24) | (rw [parse_length]; exact F.sz24) | (rw [lb]; exact F.sz24) | (rw [lc]; exact F.sz24) | exact F.sz24) A_g14) ?_
              refine Kw.WX_take rfl rfl rfl rfl (fun _ _ _ h => h) hS (fun _ ⟨A_g3, A_g14, _⟩ => Kw.R_loadW rfl Tryd.underlying24 rfl (by rw [cells8_size]; first | (rw [hl]; exact F.sz24) | (rw [parse_length]; exact F.sz24) | (rw [lb]; exact F.sz24) | (rw [lc]; exact F.sz24) | exact F.sz24) A_g3) ?_
              refine Kw.WX_take rfl rfl rfl rfl (fun _ _ _ h => h) hS (fun _ ⟨A_g3, A_g14, _⟩ => R_eqh rfl rfl lc hl bc hn hz) ?_
              refine Kw.WX_take rfl rfl rfl rfl (fun _ _ _ h => h) hS (fun _ ⟨A_g3, A_g14, _⟩ => Kw.R_move rfl) ?_
              refine Kw.WX_take rfl rfl rfl rfl (fun _ _ _ h => h) hS (fun _ ⟨A_g3, A_g14, _⟩ => Kw.R_move rfl) ?_
              refine Kw.WX_take rfl rfl rfl rfl (fun _ _ _ h => h) hS (fun _ ⟨A_g3, A_g14, _⟩ => Kw.R_move rfl) ?_
              refine Kw.WX_take rfl rfl rfl rfl (fun _ _ _ h => h) hS (fun _ ⟨A_g3, A_g14, _⟩ => Kw.R_move rfl) ?_
              refine Kw.WX_take rfl rfl rfl rfl (fun _ _ _ h => h) hS (fun _ ⟨A_g3, A_g14, _⟩ => Kw.R_eqs rfl rfl ((decide_eq_decide.2 hcu).trans hz)) ?_
              refine Kw.WX_take rfl rfl rfl rfl (fun _ _ _ h => h) hS (fun _ ⟨A_g3, A_g14, _⟩ => Kw.R_pickt rfl rfl) ?_
              cases z
              ·
                refine Kw.WX_take rfl rfl rfl rfl (fun _ _ _ h => h) hS (fun _ ⟨A_g3, A_g14, _⟩ => Kw.R_move rfl) ?_
                refine Kw.WX_take rfl rfl rfl rfl (fun _ _ _ h => h) hS (fun _ ⟨A_g3, A_g14, _⟩ => Kw.R_move rfl) ?_
                refine Kw.WX_take rfl rfl rfl rfl (fun _ _ _ h => h) hS (fun _ ⟨A_g3, A_g14, _⟩ => Kw.R_not rfl rfl) ?_
                refine Kw.WX_take rfl rfl rfl rfl (fun _ _ _ h => h) hS (fun _ ⟨A_g3, A_g14, _⟩ => Kw.R_move rfl) ?_
                refine Kw.WX_off rfl rfl rfl rfl (fun _ _ _ h => h) hS ?_
                refine Kw.WX_off rfl rfl rfl rfl (fun _ _ _ h => h) hS ?_
                refine Kw.WX_off rfl rfl rfl rfl (fun _ _ _ h => h) hS ?_
                refine Kw.WX_take rfl rfl rfl rfl (fun _ _ _ h => h) hS (fun _ ⟨A_g3, A_g14, _⟩ => Kw.R_pickf rfl rfl) ?_
                refine Kw.WX_take rfl rfl rfl rfl (fun _ _ _ h => h) hS (fun _ ⟨A_g3, A_g14, _⟩ => Kw.R_pickf rfl rfl) ?_
                refine Kw.WX_take rfl rfl rfl rfl (fun _ _ _ h => h) hS (fun _ ⟨A_g3, A_g14, _⟩ => Kw.R_eqb rfl rfl Tryd.underlying4 rfl) ?_
                refine Kw.WX_take rfl rfl rfl rfl (fun _ _ _ h => h) hS (fun _ ⟨A_g3, A_g14, _⟩ => Kw.R_pickt rfl rfl) ?_
                refine Kw.WX_take rfl rfl rfl rfl (fun _ _ _ h => h) hS (fun _ ⟨A_g3, A_g14, _⟩ => Kw.R_move rfl) ?_
                refine Kw.WX_callc rfl rfl rfl rfl rfl F.cl10 rfl (Ha _ HB) ?_; intro w72 bw72
                clear hS
                replace A_g3 := A_g3.call bw72
                replace A_g5 := A_g5.call bw72
                replace A_g8 := A_g8.call bw72
                replace A_g10 := A_g10.call bw72
                replace A_g72 := A_g72.call bw72
                replace A_g14 := A_g14.call bw72
                replace HB := Kw.Below.then HB (Nat.le_refl _) bw72
                have hS : Kw.At w72 g3 (cells8 h) 24 ∧ Kw.At w72 g14 (cells8 c) 24 ∧ True := ⟨A_g3, A_g14, trivial⟩
                clear bw72
                refine ⟨hS, ?_⟩
                refine Kw.WX_take rfl rfl rfl rfl (fun _ _ _ h => h) hS (fun _ ⟨A_g3, A_g14, _⟩ => Kw.R_pickt rfl rfl) ?_
                refine Kw.WX_take rfl rfl rfl rfl (fun _ _ _ h => h) hS (fun _ ⟨A_g3, A_g14, _⟩ => Kw.R_assign rfl) ?_
                refine Kw.WX_nil ?_
                clear hS
                refine hK68 _ _ ?_; clear hK68 K68
                refine Kw.WC_sub (l' := [(6, .bool true)]) (Kw.Sub.cons rfl Kw.Sub.nil) ?_
                refine Kw.WC_ret ?_
                exact Kw.post_ret1 rfl rfl ⟨rfl, HB⟩
              ·
                refine Kw.WX_take rfl rfl rfl rfl (fun _ _ _ h => h) hS (fun _ ⟨A_g3, A_g14, _⟩ => Kw.R_move rfl) ?_
                refine Kw.WX_off rfl rfl rfl rfl (fun _ _ _ h => h) hS ?_
                refine Kw.WX_off rfl rfl rfl rfl (fun _ _ _ h => h) hS ?_
                refine Kw.WX_off rfl rfl rfl rfl (fun _ _ _ h => h) hS ?_
                refine Kw.WX_off rfl rfl rfl rfl (fun _ _ _ h => h) hS ?_
                refine Kw.WX_off rfl rfl rfl rfl (fun _ _ _ h => h) hS ?_
                refine Kw.WX_off rfl rfl rfl rfl (fun _ _ _ h => h) hS ?_
                refine Kw.WX_off rfl rfl rfl rfl (fun _ _ _ h => h) hS ?_
                refine Kw.WX_take rfl rfl rfl rfl (fun _ _ _ h => h) hS (fun _ ⟨A_g3, A_g14, _⟩ => Kw.R_pickt rfl rfl) ?_
                refine Kw.WX_take rfl rfl rfl rfl (fun _ _ _ h => h) hS (fun _ ⟨A_g3, A_g14, _⟩ => Kw.R_eqb rfl rfl Tryd.underlying4 rfl) ?_
                refine Kw.WX_take rfl rfl rfl rfl (fun _ _ _ h => h) hS (fun _ ⟨A_g3, A_g14, _⟩ => Kw.R_pickt rfl rfl) ?_
                refine Kw.WX_take rfl rfl rfl rfl (fun _ _ _ h => h) hS (fun _ ⟨A_g3, A_g14, _⟩ => Kw.R_move rfl) ?_
                refine Kw.WX_callc rfl rfl rfl rfl rfl F.cl10 rfl (Ha _ HB) ?_; intro w74 bw74
                clear hS
                replace A_g3 := A_g3.call bw74
                replace A_g5 := A_g5.call bw74
                replace A_g8 := A_g8.call bw74
                replace A_g10 := A_g10.call bw74
                replace A_g72 := A_g72.call bw74
                replace A_g14 := A_g14.call bw74
                replace HB := Kw.Below.then HB (Nat.le_refl _) bw74
                have hS : Kw.At w74 g3 (cells8 h) 24 ∧ Kw.At w74 g14 (cells8 c) 24 ∧ True := ⟨A_g3, A_g14, trivial⟩
                clear bw74
                refine ⟨hS, ?_⟩
                refine Kw.WX_take rfl rfl rfl rfl (fun _ _ _ h => h) hS (fun _ ⟨A_g3, A_g14, _⟩ => Kw.R_pickt rfl rfl) ?_
                refine Kw.WX_take rfl rfl rfl rfl (fun _ _ _ h => h) hS (fun _ ⟨A_g3, A_g14, _⟩ => Kw.R_assign rfl) ?_
                refine Kw.WX_nil ?_
                clear hS
                refine hK68 _ _ ?_; clear hK68 K68
                refine Kw.WC_sub (l' := [(6, .bool true)]) (Kw.Sub.cons rfl Kw.Sub.nil) ?_
                refine Kw.WC_ret ?_
                exact Kw.post_ret1 rfl rfl ⟨rfl, HB⟩
            ·
              refine Kw.WL_v rfl rfl rfl (Kw.R_leq (z := false) rfl rfl (decide_eq_false c67)) ?_
              refine Kw.WL_v rfl rfl rfl (Kw.R_pickt rfl rfl) ?_
              exfalso; first | exact digit_not_lo hdig (by assumption) | exact digit_not_mid hdig (by assumption) (by assumption) | exact digit_not_hi hdig (by assumption) | exact digit_is_num hdig (by assumption) (by assumption) | exact digit_is_let hdig (by assumption) (by assumption)
          ·
            refine Kw.WL_v rfl rfl rfl (Kw.R_geq (z := false) rfl rfl (decide_eq_false c66)) ?_
            refine Kw.WL_v rfl rfl rfl (Kw.R_move rfl) ?_
            refine Kw.WL_off rfl rfl rfl ?_
            refine Kw.WL_off rfl rfl rfl ?_
            refine Kw.WL_off rfl rfl rfl ?_
            refine Kw.WL_v rfl rfl rfl (Kw.R_pickf rfl rfl) ?_
            exfalso; first | exact digit_not_lo hdig (by assumption) | exact digit_not_mid hdig (by assumption) (by assumption) | exact digit_not_hi hdig (by assumption) | exact digit_is_num hdig (by assumption) (by assumption) | exact digit_is_let hdig (by assumption) (by assumption)
      ·
        refine Kw.WL_v rfl rfl rfl (Kw.R_geq (z := false) rfl rfl (decide_eq_false c57)) ?_
        refine Kw.WL_v rfl rfl rfl (Kw.R_move rfl) ?_
        refine Kw.WL_off rfl rfl rfl ?_
        refine Kw.WL_off rfl rfl rfl ?_
        refine Kw.WL_off rfl rfl rfl ?_
        refine Kw.WL_v rfl rfl rfl (Kw.R_pickf rfl rfl) ?_
        refine Kw.WL_v rfl rfl rfl (Kw.R_move rfl) ?_
        refine Kw.WL_v rfl rfl rfl (Kw.R_indexAddrA (i := 1) (o' := 1) rfl rfl Tryd.underlying31 F.sz5 (by decide) (rfl)) ?_
        refine Kw.WL_v rfl rfl rfl (Kw.R_load1 rfl Tryd.underlying5 rfl A_g5 rfl) ?_
        by_cases c75 : (97 : Int) ≤ a1
        ·
          refine Kw.WL_v rfl rfl rfl (Kw.R_geq (z := true) rfl rfl (decide_eq_true c75)) ?_
          refine Kw.WL_v rfl rfl rfl (Kw.R_move rfl) ?_
          refine Kw.WL_v rfl rfl rfl (Kw.R_indexAddrA (i := 1) (o' := 1) rfl rfl Tryd.underlying31 F.sz5 (by decide) (rfl)) ?_
          refine Kw.WL_v rfl rfl rfl (Kw.R_load1 rfl Tryd.underlying5 rfl A_g5 rfl) ?_
          by_cases c76 : (a1 : Int) ≤ 102
          ·
            refine Kw.WL_v rfl rfl rfl (Kw.R_leq (z := true) rfl rfl (decide_eq_true c76)) ?_
            refine Kw.WL_v rfl rfl rfl (Kw.R_pickt rfl rfl) ?_
            refine Kw.WL_v rfl rfl rfl (Kw.R_pickf rfl rfl) ?_
            refine Kw.WL_v rfl rfl rfl (Kw.R_assign rfl) ?_
            refine Kw.WL_nil ?_
            refine hK56 _ _ ?_; clear hK56 K56
            refine Kw.WC_sub (l' := [(3, .pointer (some ⟨g3, 0, none⟩)), (7, .string (hexS h)), (13, .string (putU (hexS h) k a1)), (14, .pointer (some ⟨g14, 0, none⟩)), (15, .bool true), (16, .bool true)]) (Kw.Sub.cons rfl (Kw.Sub.cons rfl (Kw.Sub.cons rfl (Kw.Sub.cons rfl (Kw.Sub.cons rfl (Kw.Sub.cons rfl Kw.Sub.nil)))))) ?_
            refine Kw.WC_seq (fun K77 hK77 => ?_)
            refine Kw.WC_sched (fun ww => Kw.At ww g3 (cells8 h) 24 ∧ Kw.At ww g14 (cells8 c) 24 ∧ True) [(0, true), (1, true), (2, true), (3, true), (4, true), (5, true), (6, true), (7, true), (8, true), (9, true), (10, true), (11, true), (12, true), (13, true), (14, true), (15, true), (16, true), (17, true), (18, true), (19, true), (20, true), (21, true), (22, true), (23, true), (24, true), (25, false), (26, true), (27, true)] [some 103, some 104, some 105, some 106, some 107, some 108, some 109, some 110, some 111, some 112, some 113, some 114, some 115, some 116, some 117, some 118, some 119, some 120, some 121, some 122, some 123, some 124, some 125, some 126, some 127, some 128, some 129, some 6] rfl (by kernel_rfl) rfl (by kernel_rfl) ?_
            obtain ⟨w78, hww78⟩ : ∃ x : World, x = Go.World.drew w55 := ⟨_, rfl⟩
            rw [← hww78]
            replace A_g3 : Kw.At w78 g3 (cells8 h) 24 := by rw [hww78]; exact A_g3
            replace A_g5 : Kw.At w78 g5 #[.int .u8 a0, .int .u8 a1] 31 := by rw [hww78]; exact A_g5
            replace A_g8 : Kw.At w78 g8 (cells8 h) 24 := by rw [hww78]; exact A_g8
            replace A_g10 : Kw.At w78 g10 (cells8 b) 24 := by rw [hww78]; exact A_g10
            replace A_g72 : Kw.At w78 g72 #[.int .u8 a1] 5 := by rw [hww78]; exact A_g72
            replace A_g14 : Kw.At w78 g14 (cells8 c) 24 := by rw [hww78]; exact A_g14
            replace HB : Below w.heap.size w w78 := by rw [hww78]; exact HB.drew
            clear hww78
            have hS : Kw.At w78 g3 (cells8 h) 24 ∧ Kw.At w78 g14 (cells8 c) 24 ∧ True := ⟨A_g3, A_g14, trivial⟩
            refine Kw.WX_take rfl rfl rfl rfl (fun _ _ _ h => h) hS (fun _ ⟨A_g3, A_g14, _⟩ => Kw.R_move rfl) ?_
            refine Kw.WX_take rfl rfl rfl rfl (fun _ _ _ h => h) hS (fun _ ⟨A_g3, A_g14, _⟩ => Kw.R_move rfl) ?_
            refine Kw.WX_take rfl rfl rfl rfl (fun _ _ _ h => h) hS (fun _ ⟨A_g3, A_g14, _⟩ => Kw.R_eqb rfl rfl Tryd.underlying4 rfl) ?_
            refine Kw.WX_take rfl rfl rfl rfl (fun _ _ _ h => h) hS (fun _ ⟨A_g3, A_g14, _⟩ => Kw.R_move rfl) ?_
            refine Kw.WX_take rfl rfl rfl rfl (fun _ _ _ h => h) hS (fun _ ⟨A_g3, A_g14, _⟩ => Kw.R_loadW rfl Tryd.underlying24 rfl (by rw [cells8_size]; first | (rw [hl]; exact F.sz24) | (rw [parse_length]; exact F.sz24) | (rw [lb]; exact F.sz24) | (rw [lc]; exact F.sz24) | exact F.sz24) A_g14) ?_
            refine Kw.WX_take rfl rfl rfl rfl (fun _ _ _ h => h) hS (fun _ ⟨A_g3, A_g14, _⟩ => Kw.R_loadW rfl Tryd.underlying24 rfl (by rw [cells8_size]; first | (rw [hl]; exact F.sz24) | (rw [parse_length]; exact F.sz24) | (rw [lb]; exact F.sz24) | (rw [lc]; exact F.sz24) | exact F.sz24) A_g3) ?_
            refine Kw.WX_take rfl rfl rfl rfl (fun _ _ _ h => h) hS (fun _ ⟨A_g3, A_g14, _⟩ => R_eqh rfl rfl lc hl bc hn hz) ?_
            refine Kw.WX_take rfl rfl rfl rfl (fun _ _ _ h => h) hS (fun _ ⟨A_g3, A_g14, _⟩ => Kw.R_move rfl) ?_
            refine Kw.WX_take rfl rfl rfl rfl (fun _ _ _ h => h) hS (fun _ ⟨A_g3, A_g14, _⟩ => Kw.R_move rfl) ?_
            refine Kw.WX_take rfl rfl rfl rfl (fun _ _ _ h => h) hS (fun _ ⟨A_g3, A_g14, _⟩ => Kw.R_move rfl) ?_
            refine Kw.WX_take rfl rfl rfl rfl (fun _ _ _ h => h) hS (fun _ ⟨A_g3, A_g14, _⟩ => Kw.R_move rfl) ?_
            refine Kw.WX_take rfl rfl rfl rfl (fun _ _ _ h => h) hS (fun _ ⟨A_g3, A_g14, _⟩ => Kw.R_eqs rfl rfl ((decide_eq_decide.2 hcu).trans hz)) ?_
            refine Kw.WX_take rfl rfl rfl rfl (fun _ _ _ h => h) hS (fun _ ⟨A_g3, A_g14, _⟩ => Kw.R_pickt rfl rfl) ?_
            cases z
            ·
              refine Kw.WX_take rfl rfl rfl rfl (fun _ _ _ h => h) hS (fun _ ⟨A_g3, A_g14, _⟩ => Kw.R_move rfl) ?_
              refine Kw.WX_take rfl rfl rfl rfl (fun _ _ _ h => h) hS (fun _ ⟨A_g3, A_g14, _⟩ => Kw.R_move rfl) ?_
              refine Kw.WX_take rfl rfl rfl rfl (fun _ _ _ h => h) hS (fun _ ⟨A_g3, A_g14, _⟩ => Kw.R_not rfl rfl) ?_
              refine Kw.WX_take rfl rfl rfl rfl (fun _ _ _ h => h) hS (fun _ ⟨A_g3, A_g14, _⟩ => Kw.R_move rfl) ?_
              refine Kw.WX_off rfl rfl rfl rfl (fun _ _ _ h => h) hS ?_
              refine Kw.WX_off rfl rfl rfl rfl (fun _ _ _ h => h) hS ?_
              refine Kw.WX_off rfl rfl rfl rfl (fun _ _ _ h => h) hS ?_
              refine Kw.WX_take rfl rfl rfl rfl (fun _ _ _ h => h) hS (fun _ ⟨A_g3, A_g14, _⟩ => Kw.R_pickf rfl rfl) ?_
              refine Kw.WX_take rfl rfl rfl rfl (fun _ _ _ h => h) hS (fun _ ⟨A_g3, A_g14, _⟩ => Kw.R_pickf rfl rfl) ?_
              refine Kw.WX_take rfl rfl rfl rfl (fun _ _ _ h => h) hS (fun _ ⟨A_g3, A_g14, _⟩ => Kw.R_eqb rfl rfl Tryd.underlying4 rfl) ?_
              refine Kw.WX_take rfl rfl rfl rfl (fun _ _ _ h => h) hS (fun _ ⟨A_g3, A_g14, _⟩ => Kw.R_pickt rfl rfl) ?_
              refine Kw.WX_take rfl rfl rfl rfl (fun _ _ _ h => h) hS (fun _ ⟨A_g3, A_g14, _⟩ => Kw.R_move rfl) ?_
              refine Kw.WX_callc rfl rfl rfl rfl rfl F.cl10 rfl (Ha _ HB) ?_; intro w81 bw81
              clear hS
              replace A_g3 := A_g3.call bw81
              replace A_g5 := A_g5.call bw81
              replace A_g8 := A_g8.call bw81
              replace A_g10 := A_g10.call bw81
              replace A_g72 := A_g72.call bw81
              replace A_g14 := A_g14.call bw81
              replace HB := Kw.Below.then HB (Nat.le_refl _) bw81
              have hS : Kw.At w81 g3 (cells8 h) 24 ∧ Kw.At w81 g14 (cells8 c) 24 ∧ True := ⟨A_g3, A_g14, trivial⟩
              clear bw81
              refine ⟨hS, ?_⟩
              refine Kw.WX_take rfl rfl rfl rfl (fun _ _ _ h => h) hS (fun _ ⟨A_g3, A_g14, _⟩ => Kw.R_pickt rfl rfl) ?_
              refine Kw.WX_take rfl rfl rfl rfl (fun _ _ _ h => h) hS (fun _ ⟨A_g3, A_g14, _⟩ => Kw.R_assign rfl) ?_
              refine Kw.WX_nil ?_
              clear hS
              refine hK77 _ _ ?_; clear hK77 K77
              refine Kw.WC_sub (l' := [(6, .bool true)]) (Kw.Sub.cons rfl Kw.Sub.nil) ?_
              refine Kw.WC_ret ?_
              exact Kw.post_ret1 rfl rfl ⟨rfl, HB⟩
            ·
              refine Kw.WX_take rfl rfl rfl rfl (fun _ _ _ h => h) hS (fun _ ⟨A_g3, A_g14, _⟩ => Kw.R_move rfl) ?_
              refine Kw.WX_off rfl rfl rfl rfl (fun _ _ _ h => h) hS ?_
              refine Kw.WX_off rfl rfl rfl rfl (fun _ _ _ h => h) hS ?_
              refine Kw.WX_off rfl rfl rfl rfl (fun _ _ _ h => h) hS ?_
              refine Kw.WX_off rfl rfl rfl rfl (fun _ _ _ h => h) hS ?_
              refine Kw.WX_off rfl rfl rfl rfl (fun _ _ _ h => h) hS ?_
              refine Kw.WX_off rfl rfl rfl rfl (fun _ _ _ h => h) hS ?_
              refine Kw.WX_off rfl rfl rfl rfl (fun _ _ _ h => h) hS ?_
              refine Kw.WX_take rfl rfl rfl rfl (fun _ _ _ h => h) hS (fun _ ⟨A_g3, A_g14, _⟩ => Kw.R_pickt rfl rfl) ?_
              refine Kw.WX_take rfl rfl rfl rfl (fun _ _ _ h => h) hS (fun _ ⟨A_g3, A_g14, _⟩ => Kw.R_eqb rfl rfl Tryd.underlying4 rfl) ?_
              refine Kw.WX_take rfl rfl rfl rfl (fun _ _ _ h => h) hS (fun _ ⟨A_g3, A_g14, _⟩ => Kw.R_pickt rfl rfl) ?_
              refine Kw.WX_take rfl rfl rfl rfl (fun _ _ _ h => h) hS (fun _ ⟨A_g3, A_g14, _⟩ => Kw.R_move rfl) ?_
              refine Kw.WX_callc rfl rfl rfl rfl rfl F.cl10 rfl (Ha _ HB) ?_; intro w83 bw83
              clear hS
              replace A_g3 := A_g3.call bw83
              replace A_g5 := A_g5.call bw83
              replace A_g8 := A_g8.call bw83
              replace A_g10 := A_g10.call bw83
              replace A_g72 := A_g72.call bw83
              replace A_g14 := A_g14.call bw83
              replace HB := Kw.Below.then HB (Nat.le_refl _) bw83
              have hS : Kw.At w83 g3 (cells8 h) 24 ∧ Kw.At w83 g14 (cells8 c) 24 ∧ True := ⟨A_g3, A_g14, trivial⟩
              clear bw83
              refine ⟨hS, ?_⟩
              refine Kw.WX_take rfl rfl rfl rfl (fun _ _ _ h => h) hS (fun _ ⟨A_g3, A_g14, _⟩ => Kw.R_pickt rfl rfl) ?_
              refine Kw.WX_take rfl rfl rfl rfl (fun _ _ _ h => h) hS (fun _ ⟨A_g3, A_g14, _⟩ => Kw.R_assign rfl) ?_
              refine Kw.WX_nil ?_
              clear hS
              refine hK77 _ _ ?_; clear hK77 K77
              refine Kw.WC_sub (l' := [(6, .bool true)]) (Kw.Sub.cons rfl Kw.Sub.nil) ?_
              refine Kw.WC_ret ?_
              exact Kw.post_ret1 rfl rfl ⟨rfl, HB⟩
          ·
            refine Kw.WL_v rfl rfl rfl (Kw.R_leq (z := false) rfl rfl (decide_eq_false c76)) ?_
            refine Kw.WL_v rfl rfl rfl (Kw.R_pickt rfl rfl) ?_
            exfalso; first | exact digit_not_lo hdig (by assumption) | exact digit_not_mid hdig (by assumption) (by assumption) | exact digit_not_hi hdig (by assumption) | exact digit_is_num hdig (by assumption) (by assumption) | exact digit_is_let hdig (by assumption) (by assumption)
        ·
          refine Kw.WL_v rfl rfl rfl (Kw.R_geq (z := false) rfl rfl (decide_eq_false c75)) ?_
          refine Kw.WL_v rfl rfl rfl (Kw.R_move rfl) ?_
          refine Kw.WL_off rfl rfl rfl ?_
          refine Kw.WL_off rfl rfl rfl ?_
          refine Kw.WL_off rfl rfl rfl ?_
          refine Kw.WL_v rfl rfl rfl (Kw.R_pickf rfl rfl) ?_
          exfalso; first | exact digit_not_lo hdig (by assumption) | exact digit_not_mid hdig (by assumption) (by assumption) | exact digit_not_hi hdig (by assumption) | exact digit_is_num hdig (by assumption) (by assumption) | exact digit_is_let hdig (by assumption) (by assumption)

set_option maxRecDepth 100000 in
set_option maxHeartbeats 4000000 in
theorem ShaBack_Z (h : List Int) (hl : h.length = 32) (hn : Bytes h) (s : ByteArray) (his : parseV s = none) (a0 a1 : Int) (r0 : 0 ≤ a0 ∧ a0 < 256) (r1 : 0 ≤ a1 ∧ a1 < 256) (w : World) (h0 : Tab w 0 H8) (h1 : Tab w 1 K64) :
    Calls Tryd.prog 5 #[.agg (cells8 h), .string s, .agg (cells8 [a0, a1])] w fun e w' => e = .returned (.bool true) ∧ Below w.heap.size w w' := by
  have HB : Below w.heap.size w w := Below.refl _ _
  have Ha : ∀ (w' : World), Below w.heap.size w w' → Calls Tryd.prog 10 #[] w' fun e w2 => e = .returned (.bool true) ∧ Below w'.heap.size w' w2 := fun w' b => hashed_c w' (tab_below h0 b) (tab_below h1 b)
  clear h0 h1
  refine Kw.enter Tryd.func5 rfl Tryd.ntmps5 rfl rfl ?_
  refine Kw.WC_seq (fun K1 hK1 => ?_)
  refine Kw.WC_region [some 3, some 5, some 6] rfl ?_
  refine Kw.WL_box rfl rfl rfl ?_; intro g3 w2 N_g3
  have A_g3 : Kw.At w2 g3 (cells8 h) 24 := N_g3.at_
  have G_g3 := N_g3.ge HB (Nat.le_refl _); replace HB := N_g3.below HB (Nat.le_refl _); clear N_g3
  refine Kw.WL_box rfl rfl rfl ?_; intro g5 w3 N_g5
  have L_g3_g5 := N_g5.ne A_g3; replace A_g3 := N_g5.keep A_g3
  have A_g5 : Kw.At w3 g5 #[.int .u8 a0, .int .u8 a1] 31 := N_g5.at_
  have G_g5 := N_g5.ge HB (Nat.le_refl _); replace HB := N_g5.below HB (Nat.le_refl _); clear N_g5
  refine Kw.WL_v rfl rfl rfl (Kw.R_assign rfl) ?_
  refine Kw.WL_nil ?_
  refine hK1 _ _ ?_; clear hK1 K1
  refine Kw.WC_seq (fun K4 hK4 => ?_)
  refine Kw.WC_seq (fun K5 hK5 => ?_)
  refine Kw.WC_region [some 17, some 18, some 19] rfl ?_
  refine Kw.WL_v rfl rfl rfl (Kw.R_move rfl) ?_
  refine Kw.WL_v rfl rfl rfl (Kw.R_lens Tryd.underlying9 rfl) ?_
  by_cases c6 : (100 : Int) < (s.size : Int)
  ·
    refine Kw.WL_v rfl rfl rfl (Kw.R_gtr (z := true) rfl rfl (decide_eq_true c6)) ?_
    refine Kw.WL_nil ?_
    refine hK5 _ _ ?_; clear hK5 K5
    refine Kw.WC_true rfl ?_
    refine Kw.WC_seq (fun K7 hK7 => ?_)
    refine Kw.WC_region [some 20, some 6] rfl ?_
    refine Kw.WL_callc rfl rfl rfl rfl F.cl10 rfl (Ha _ HB) ?_; intro w8 bw8
    replace A_g3 := A_g3.call bw8
    replace A_g5 := A_g5.call bw8
    replace HB := Kw.Below.then HB (Nat.le_refl _) bw8
    clear bw8
    refine Kw.WL_v rfl rfl rfl (Kw.R_assign rfl) ?_
    refine Kw.WL_nil ?_
    refine hK7 _ _ ?_; clear hK7 K7
    refine Kw.WC_sub (l' := [(6, .bool true)]) (Kw.Sub.cons rfl Kw.Sub.nil) ?_
    refine Kw.WC_ret ?_
    refine Kw.QR_then ?_; clear hK4 K4
    exact Kw.post_ret1 rfl rfl ⟨rfl, HB⟩
  ·
    refine Kw.WL_v rfl rfl rfl (Kw.R_gtr (z := false) rfl rfl (decide_eq_false c6)) ?_
    refine Kw.WL_nil ?_
    refine hK5 _ _ ?_; clear hK5 K5
    refine Kw.WC_false rfl ?_
    refine Kw.WC_skip ?_
    refine hK4 _ _ ?_; clear hK4 K4
    refine Kw.WC_sub (l' := [(1, .string s), (3, .pointer (some ⟨g3, 0, none⟩)), (5, .pointer (some ⟨g5, 0, none⟩))]) (Kw.Sub.cons rfl (Kw.Sub.cons rfl (Kw.Sub.cons rfl Kw.Sub.nil))) ?_
    refine Kw.WC_seq (fun K9 hK9 => ?_)
    refine Kw.WC_region [some 21, some 22, some 7] rfl ?_
    refine Kw.WL_v rfl rfl rfl (Kw.R_loadW rfl Tryd.underlying24 rfl (by rw [cells8_size]; first | (rw [hl]; exact F.sz24) | (rw [parse_length]; exact F.sz24) | (rw [lb]; exact F.sz24) | (rw [lc]; exact F.sz24) | exact F.sz24) A_g3) ?_
    refine Kw.WL_callc rfl rfl rfl rfl F.cl15 rfl (hex_c h hl hn _) ?_; intro w10 bw10
    replace A_g3 := A_g3.call bw10
    replace A_g5 := A_g5.call bw10
    replace HB := Kw.Below.then HB (Nat.le_refl _) bw10
    clear bw10
    refine Kw.WL_v rfl rfl rfl (Kw.R_assign rfl) ?_
    refine Kw.WL_nil ?_
    refine hK9 _ _ ?_; clear hK9 K9
    refine Kw.WC_seq (fun K11 hK11 => ?_)
    refine Kw.WC_region [some 24, some 25, some 23, some 26, some 27, some 8, none, some 9] rfl ?_
    refine Kw.WL_v rfl rfl rfl (Kw.R_move rfl) ?_
    refine Kw.WL_callc rfl rfl rfl rfl F.cl13 rfl (parse_T h hl hn _) ?_; intro w12 bw12
    replace A_g3 := A_g3.call bw12
    replace A_g5 := A_g5.call bw12
    replace HB := Kw.Below.then HB (Nat.le_refl _) bw12
    clear bw12
    refine Kw.WL_v rfl rfl rfl (Kw.R_move rfl) ?_
    refine Kw.WL_v rfl rfl rfl (Kw.R_extract rfl rfl) ?_
    refine Kw.WL_v rfl rfl rfl (Kw.R_extract rfl rfl) ?_
    refine Kw.WL_alloc rfl rfl F.zr24 ?_; intro g8 w13 N_g8
    have L_g3_g8 := N_g8.ne A_g3; replace A_g3 := N_g8.keep A_g3
    have L_g5_g8 := N_g8.ne A_g5; replace A_g5 := N_g8.keep A_g5
    have A_g8 : Kw.At w13 g8 F.Z24 24 := N_g8.at_
    have G_g8 := N_g8.ge HB (Nat.le_refl _); replace HB := N_g8.below HB (Nat.le_refl _); clear N_g8
    refine Kw.WL_storeW rfl rfl rfl (by rw [cells8_size]; first | (rw [hl]; exact F.sz24) | (rw [parse_length]; exact F.sz24) | (rw [lb]; exact F.sz24) | (rw [lc]; exact F.sz24) | exact F.sz24) A_g8 (by rw [cells8_size]; first | (rw [hl]; rfl) | (rw [parse_length]; rfl) | (rw [lb]; rfl) | (rw [lc]; rfl) | rfl) (by simpa using cells8_one _) ?_; intro w14 M_g8
    replace A_g3 := M_g8.keep A_g3 (Nat.ne_of_lt L_g3_g8)
    replace A_g5 := M_g8.keep A_g5 (Nat.ne_of_lt L_g5_g8)
    replace A_g8 : Kw.At w14 g8 (cells8 h) 24 := M_g8.at_ A_g8
    replace HB := M_g8.below HB G_g8; clear M_g8
    refine Kw.WL_v rfl rfl rfl (Kw.R_assign rfl) ?_
    refine Kw.WL_nil ?_
    refine hK11 _ _ ?_; clear hK11 K11
    refine Kw.WC_sub (l' := [(1, .string s), (3, .pointer (some ⟨g3, 0, none⟩)), (5, .pointer (some ⟨g5, 0, none⟩)), (7, .string (hexS h)), (8, .pointer (some ⟨g8, 0, none⟩)), (9, .bool true)]) (Kw.Sub.cons rfl (Kw.Sub.cons rfl (Kw.Sub.cons rfl (Kw.Sub.cons rfl (Kw.Sub.cons rfl (Kw.Sub.cons rfl Kw.Sub.nil)))))) ?_
    refine Kw.WC_seq (fun K15 hK15 => ?_)
    refine Kw.WC_region [some 29, some 30, some 28, some 31, some 32, some 10, none, some 11] rfl ?_
    refine Kw.WL_v rfl rfl rfl (Kw.R_move rfl) ?_
    refine Kw.WL_callc rfl rfl rfl rfl F.cl13 rfl (parse_N s his _) ?_; intro w16 bw16
    replace A_g3 := A_g3.call bw16
    replace A_g5 := A_g5.call bw16
    replace A_g8 := A_g8.call bw16
    replace HB := Kw.Below.then HB (Nat.le_refl _) bw16
    clear bw16
    refine Kw.WL_v rfl rfl rfl (Kw.R_move rfl) ?_
    refine Kw.WL_v rfl rfl rfl (Kw.R_extract rfl rfl) ?_
    refine Kw.WL_v rfl rfl rfl (Kw.R_extract rfl rfl) ?_
    refine Kw.WL_alloc rfl rfl F.zr24 ?_; intro g10 w17 N_g10
    have L_g3_g10 := N_g10.ne A_g3; replace A_g3 := N_g10.keep A_g3
    have L_g5_g10 := N_g10.ne A_g5; replace A_g5 := N_g10.keep A_g5
    have L_g8_g10 := N_g10.ne A_g8; replace A_g8 := N_g10.keep A_g8
    have A_g10 : Kw.At w17 g10 F.Z24 24 := N_g10.at_
    have G_g10 := N_g10.ge HB (Nat.le_refl _); replace HB := N_g10.below HB (Nat.le_refl _); clear N_g10
    refine Kw.WL_storeW rfl rfl rfl (by rw [cells8_size]; first | (rw [hl]; exact F.sz24) | (rw [parse_length]; exact F.sz24) | (rw [lb]; exact F.sz24) | (rw [lc]; exact F.sz24) | exact F.sz24) A_g10 (by rw [cells8_size]; first | (rw [hl]; rfl) | (rw [parse_length]; rfl) | (rw [lb]; rfl) | (rw [lc]; rfl) | rfl) (by simpa using cells8_one _) ?_; intro w18 M_g10
    replace A_g3 := M_g10.keep A_g3 (Nat.ne_of_lt L_g3_g10)
    replace A_g5 := M_g10.keep A_g5 (Nat.ne_of_lt L_g5_g10)
    replace A_g8 := M_g10.keep A_g8 (Nat.ne_of_lt L_g8_g10)
    replace A_g10 : Kw.At w18 g10 (cells8 zeros32) 24 := M_g10.at_ A_g10
    replace HB := M_g10.below HB G_g10; clear M_g10
    refine Kw.WL_v rfl rfl rfl (Kw.R_assign rfl) ?_
    refine Kw.WL_nil ?_
    refine hK15 _ _ ?_; clear hK15 K15
    refine Kw.WC_seq (fun K19 hK19 => ?_)
    refine Kw.WC_seq (fun K20 hK20 => ?_)
    refine Kw.WC_region [some 33, some 34, some 35, some 36, some 37, some 38, some 39, some 40, some 41, some 42, some 43, some 44, some 45, some 46, some 47, some 48, some 49, some 50, some 51, some 52, some 53, some 54, some 55, some 56, some 57, some 58, some 59, some 60, some 61, some 62] rfl ?_
    refine Kw.WL_v rfl rfl rfl (Kw.R_move rfl) ?_
    refine Kw.WL_v rfl rfl rfl (Kw.R_lens Tryd.underlying9 rfl) ?_
    refine Kw.WL_v rfl rfl rfl (Kw.R_nei (z := false) rfl rfl (decide_eq_true (by rw [hexS_size]; rfl))) ?_
    refine Kw.WL_v rfl rfl rfl (Kw.R_move rfl) ?_
    refine Kw.WL_v rfl rfl rfl (Kw.R_loadW rfl Tryd.underlying24 rfl (by rw [cells8_size]; first | (rw [hl]; exact F.sz24) | (rw [parse_length]; exact F.sz24) | (rw [lb]; exact F.sz24) | (rw [lc]; exact F.sz24) | exact F.sz24) A_g8) ?_
    refine Kw.WL_v rfl rfl rfl (Kw.R_loadW rfl Tryd.underlying24 rfl (by rw [cells8_size]; first | (rw [hl]; exact F.sz24) | (rw [parse_length]; exact F.sz24) | (rw [lb]; exact F.sz24) | (rw [lc]; exact F.sz24) | exact F.sz24) A_g3) ?_
    refine Kw.WL_v rfl rfl rfl (R_neh (z := false) rfl rfl hl hl hn hn (decide_eq_true rfl)) ?_
    refine Kw.WL_v rfl rfl rfl (Kw.R_pickf rfl rfl) ?_
    refine Kw.WL_v rfl rfl rfl (Kw.R_move rfl) ?_
    refine Kw.WL_v rfl rfl rfl (Kw.R_move rfl) ?_
    refine Kw.WL_v rfl rfl rfl (Kw.R_not rfl rfl) ?_
    refine Kw.WL_v rfl rfl rfl (Kw.R_pickf rfl rfl) ?_
    refine Kw.WL_v rfl rfl rfl (Kw.R_move rfl) ?_
    refine Kw.WL_v rfl rfl rfl (Kw.R_move rfl) ?_
    refine Kw.WL_v rfl rfl rfl (Kw.R_move rfl) ?_
    refine Kw.WL_off rfl rfl rfl ?_
    refine Kw.WL_off rfl rfl rfl ?_
    refine Kw.WL_off rfl rfl rfl ?_
    refine Kw.WL_off rfl rfl rfl ?_
    refine Kw.WL_v rfl rfl rfl (Kw.R_pickf rfl rfl) ?_
    refine Kw.WL_v rfl rfl rfl (Kw.R_pickf rfl rfl) ?_
    refine Kw.WL_v rfl rfl rfl (Kw.R_move rfl) ?_
    refine Kw.WL_v rfl rfl rfl (Kw.R_move rfl) ?_
    refine Kw.WL_v rfl rfl rfl (Kw.R_not rfl rfl) ?_
    refine Kw.WL_v rfl rfl rfl (Kw.R_move rfl) ?_
    refine Kw.WL_v rfl rfl rfl (Kw.R_loadW rfl Tryd.underlying24 rfl (by rw [cells8_size]; first | (rw [hl]; exact F.sz24) | (rw [parse_length]; exact F.sz24) | (rw [lb]; exact F.sz24) | (rw [lc]; exact F.sz24) | exact F.sz24) A_g10) ?_
    refine Kw.WL_v rfl rfl rfl (R_bh) ?_
    refine Kw.WL_v rfl rfl rfl (R_neh (z := false) rfl rfl rfl rfl bytes_zeros bytes_zeros (decide_eq_true rfl)) ?_
    refine Kw.WL_v rfl rfl rfl (Kw.R_pickt rfl rfl) ?_
    refine Kw.WL_v rfl rfl rfl (Kw.R_pickf rfl rfl) ?_
    refine Kw.WL_nil ?_
    refine hK20 _ _ ?_; clear hK20 K20
    refine Kw.WC_sub (l' := [(3, .pointer (some ⟨g3, 0, none⟩)), (5, .pointer (some ⟨g5, 0, none⟩)), (7, .string (hexS h)), (62, .bool false)]) (Kw.Sub.cons rfl (Kw.Sub.cons rfl (Kw.Sub.cons rfl (Kw.Sub.cons rfl Kw.Sub.nil)))) ?_
    refine Kw.WC_false rfl ?_
    refine Kw.WC_skip ?_
    refine hK19 _ _ ?_; clear hK19 K19
    refine Kw.WC_seq (fun K21 hK21 => ?_)
    refine Kw.WC_region [some 63, some 64, some 65, some 66, some 12] rfl ?_
    refine Kw.WL_v rfl rfl rfl (Kw.R_indexAddrA (i := 0) (o' := 0) rfl rfl Tryd.underlying31 F.sz5 (by decide) (rfl)) ?_
    refine Kw.WL_v rfl rfl rfl (Kw.R_load1 rfl Tryd.underlying5 rfl A_g5 rfl) ?_
    refine Kw.WL_v rfl rfl rfl (Kw.R_conv (c := a0) Tryd.underlying5 Tryd.underlying3 rfl (Kw.wrap_i64 (by omega))) ?_
    obtain ⟨k, hk⟩ : ∃ x : Nat, (x : Int) = a0 % 64 := ⟨(a0 % 64).toNat, by omega⟩
    refine Kw.WL_v rfl rfl rfl (Kw.R_rem (c := (k : Int)) rfl rfl (by omega) (by rw [Kw.tmod_pos (by omega)]; rw [hk])) ?_
    refine Kw.WL_v rfl rfl rfl (Kw.R_assign rfl) ?_
    refine Kw.WL_nil ?_
    refine hK21 _ _ ?_; clear hK21 K21
    refine Kw.WC_seq (fun K22 hK22 => ?_)
    refine Kw.WC_sched (fun ww => Kw.At ww g3 (cells8 h) 24 ∧ Kw.At ww g5 #[.int .u8 a0, .int .u8 a1] 31 ∧ Kw.At ww g8 (cells8 h) 24 ∧ Kw.At ww g10 (cells8 zeros32) 24 ∧ True) [(0, true), (1, true), (2, true), (3, true), (4, true), (8, true), (9, true), (10, true), (11, true), (5, false), (6, false), (7, true), (12, true), (13, true)] [some 67, some 68, some 69, some 70, some 71, some 72, some 73, some 74, some 75, some 76, some 77, some 78, some 79, some 13] rfl (by kernel_rfl) rfl (by kernel_rfl) ?_
    obtain ⟨w23, hww23⟩ : ∃ x : World, x = Go.World.drew w18 := ⟨_, rfl⟩
    rw [← hww23]
    replace A_g3 : Kw.At w23 g3 (cells8 h) 24 := by rw [hww23]; exact A_g3
    replace A_g5 : Kw.At w23 g5 #[.int .u8 a0, .int .u8 a1] 31 := by rw [hww23]; exact A_g5
    replace A_g8 : Kw.At w23 g8 (cells8 h) 24 := by rw [hww23]; exact A_g8
    replace A_g10 : Kw.At w23 g10 (cells8 zeros32) 24 := by rw [hww23]; exact A_g10
    replace HB : Below w.heap.size w w23 := by rw [hww23]; exact HB.drew
    clear hww23
    have hS : Kw.At w23 g3 (cells8 h) 24 ∧ Kw.At w23 g5 #[.int .u8 a0, .int .u8 a1] 31 ∧ Kw.At w23 g8 (cells8 h) 24 ∧ Kw.At w23 g10 (cells8 zeros32) 24 ∧ True := ⟨A_g3, A_g5, A_g8, A_g10, trivial⟩
    refine Kw.WX_take rfl rfl rfl rfl (fun _ _ _ h => h) hS (fun _ ⟨A_g3, A_g5, A_g8, A_g10, _⟩ => Kw.R_move rfl) ?_
    refine Kw.WX_take rfl rfl rfl rfl (fun _ _ _ h => h) hS (fun _ ⟨A_g3, A_g5, A_g8, A_g10, _⟩ => Kw.R_move rfl) ?_
    refine Kw.WX_take rfl rfl rfl rfl (fun _ _ _ h => h) hS (fun _ ⟨A_g3, A_g5, A_g8, A_g10, _⟩ => Kw.R_slices (i := 0) (j := k) (r := ((hexS h).extract 0 k)) Tryd.underlying9 rfl rfl ⟨_, rfl⟩ (by omega) (by rw [hexS_size]; omega) (rfl)) ?_
    refine Kw.WX_take rfl rfl rfl rfl (fun _ _ _ h => h) hS (fun _ ⟨A_g3, A_g5, A_g8, A_g10, _⟩ => Kw.R_indexAddrA (i := 1) (o' := 1) rfl rfl Tryd.underlying31 F.sz5 (by decide) (rfl)) ?_
    refine Kw.WX_take rfl rfl rfl rfl (fun _ _ _ h => h) hS (fun _ ⟨A_g3, A_g5, A_g8, A_g10, _⟩ => Kw.R_load1 rfl Tryd.underlying5 rfl A_g5 rfl) ?_
    refine Kw.WX_take rfl rfl rfl rfl (fun _ _ _ h => h) hS (fun _ ⟨A_g3, A_g5, A_g8, A_g10, _⟩ => Kw.R_move rfl) ?_
    refine Kw.WX_take rfl rfl rfl rfl (fun _ _ _ h => h) hS (fun _ ⟨A_g3, A_g5, A_g8, A_g10, _⟩ => Kw.R_move rfl) ?_
    obtain ⟨j77, hj77⟩ : ∃ x : Nat, (x : Int) = (k : Int) + 1 := ⟨((k : Int) + 1).toNat, by omega⟩
    refine Kw.WX_take rfl rfl rfl rfl (fun _ _ _ h => h) hS (fun _ ⟨A_g3, A_g5, A_g8, A_g10, _⟩ => Kw.R_add (c := (j77 : Int)) rfl rfl (by rw [Kw.wrap_i64 (by omega)]; rw [hj77])) ?_
    refine Kw.WX_take rfl rfl rfl rfl (fun _ _ _ h => h) hS (fun _ ⟨A_g3, A_g5, A_g8, A_g10, _⟩ => Kw.R_slices (i := j77) (j := (hexS h).size) (r := ((hexS h).extract (k + 1) 64)) Tryd.underlying9 rfl ⟨_, rfl⟩ rfl (by rw [hexS_size]; omega) (Nat.le_refl _) (by rw [hexS_size, show j77 = k + 1 by omega])) ?_
    obtain ⟨g72, w24, N_g72⟩ : ∃ b w2, Kw.Newb w23 b #[.int .u8 a1] 5 w2 := ⟨_, _, rfl, rfl⟩
    have R_g72 := fun (l : Kw.Env) (h : Kw.evsP l [(0, .tmp 71)] = some [(0, .int .u8 a1)]) => Kw.R_buildSlice (P := Tryd.prog) (l := l) (D := some 72) (T := 32) (S := "outright.go:22") (F := #[⟨4, .data⟩]) (g := none) (t := 32) (len := 1) h (fun w => by kernel_rfl) N_g72
    have L_g3_g72 := N_g72.ne A_g3; replace A_g3 := N_g72.keep A_g3
    have L_g5_g72 := N_g72.ne A_g5; replace A_g5 := N_g72.keep A_g5
    have L_g8_g72 := N_g72.ne A_g8; replace A_g8 := N_g72.keep A_g8
    have L_g10_g72 := N_g72.ne A_g10; replace A_g10 := N_g72.keep A_g10
    have A_g72 : Kw.At w24 g72 #[.int .u8 a1] 5 := N_g72.at_
    have G_g72 := N_g72.ge HB (Nat.le_refl _); replace HB := N_g72.below HB (Nat.le_refl _); clear N_g72
    clear hS; have hS : Kw.At w24 g3 (cells8 h) 24 ∧ Kw.At w24 g5 #[.int .u8 a0, .int .u8 a1] 31 ∧ Kw.At w24 g8 (cells8 h) 24 ∧ Kw.At w24 g10 (cells8 zeros32) 24 ∧ True := ⟨A_g3, A_g5, A_g8, A_g10, trivial⟩
    refine Kw.WX_v rfl rfl rfl rfl (R_g72 _ rfl) hS ?_; clear R_g72
    refine Kw.WX_v rfl rfl rfl rfl (Kw.R_convbs (bs := [a1.toNat.toUInt8]) (r := (oneB a1)) Tryd.underlying32 Tryd.underlying5 Tryd.underlying9 rfl A_g72 (rfl) (fun j hj => by obtain rfl : j = 0 := (by have : j < 1 := hj; omega); have := u8_back a1 r1; simp [this]; omega) (rfl)) hS ?_
    refine Kw.WX_take rfl rfl rfl rfl (fun _ _ _ h => h) hS (fun _ ⟨A_g3, A_g5, A_g8, A_g10, _⟩ => Kw.R_adds (r := ((hexS h).extract 0 k ++ oneB a1)) rfl rfl (by rw [ByteArray.size_extract, hexS_size]; show _ + 1 ≤ _; omega) (rfl)) ?_
    refine Kw.WX_take rfl rfl rfl rfl (fun _ _ _ h => h) hS (fun _ ⟨A_g3, A_g5, A_g8, A_g10, _⟩ => Kw.R_adds (r := (putU (hexS h) k a1)) rfl rfl (by rw [ByteArray.size_append, ByteArray.size_extract, ByteArray.size_extract, hexS_size]; show _ + 1 + _ ≤ _; omega) (rfl)) ?_
    refine Kw.WX_take rfl rfl rfl rfl (fun _ _ _ h => h) hS (fun _ ⟨A_g3, A_g5, A_g8, A_g10, _⟩ => Kw.R_assign rfl) ?_
    refine Kw.WX_nil ?_
    clear hS
    refine hK22 _ _ ?_; clear hK22 K22
    refine Kw.WC_sub (l' := [(3, .pointer (some ⟨g3, 0, none⟩)), (5, .pointer (some ⟨g5, 0, none⟩)), (7, .string (hexS h)), (13, .string (putU (hexS h) k a1))]) (Kw.Sub.cons rfl (Kw.Sub.cons rfl (Kw.Sub.cons rfl (Kw.Sub.cons rfl Kw.Sub.nil)))) ?_
    refine Kw.WC_seq (fun K25 hK25 => ?_)
    refine Kw.WC_region [some 81, some 82, some 80, some 83, some 84, some 14, none, some 15] rfl ?_
    refine Kw.WL_v rfl rfl rfl (Kw.R_move rfl) ?_
    rcases odd_cases h hl hn k (by omega) a1 r1 with ⟨hod, hdig⟩ | ⟨c, hod, hdig, lc, bc, hcu⟩
    ·
      refine Kw.WL_callc rfl rfl rfl rfl F.cl13 rfl (parse_N _ hod _) ?_; intro w26 bw26
      replace A_g3 := A_g3.call bw26
      replace A_g5 := A_g5.call bw26
      replace A_g8 := A_g8.call bw26
      replace A_g10 := A_g10.call bw26
      replace A_g72 := A_g72.call bw26
      replace HB := Kw.Below.then HB (Nat.le_refl _) bw26
      clear bw26
      obtain ⟨z, hz⟩ : ∃ z, decide (zeros32 = h) = z := ⟨_, rfl⟩
      refine Kw.WL_v rfl rfl rfl (Kw.R_move rfl) ?_
      refine Kw.WL_v rfl rfl rfl (Kw.R_extract rfl rfl) ?_
      refine Kw.WL_v rfl rfl rfl (Kw.R_extract rfl rfl) ?_
      refine Kw.WL_alloc rfl rfl F.zr24 ?_; intro g14 w27 N_g14
      have L_g3_g14 := N_g14.ne A_g3; replace A_g3 := N_g14.keep A_g3
      have L_g5_g14 := N_g14.ne A_g5; replace A_g5 := N_g14.keep A_g5
      have L_g8_g14 := N_g14.ne A_g8; replace A_g8 := N_g14.keep A_g8
      have L_g10_g14 := N_g14.ne A_g10; replace A_g10 := N_g14.keep A_g10
      have L_g72_g14 := N_g14.ne A_g72; replace A_g72 := N_g14.keep A_g72
      have A_g14 : Kw.At w27 g14 F.Z24 24 := N_g14.at_
      have G_g14 := N_g14.ge HB (Nat.le_refl _); replace HB := N_g14.below HB (Nat.le_refl _); clear N_g14
      refine Kw.WL_storeW rfl rfl rfl (by rw [cells8_size]; first | (rw [hl]; exact F.sz24) | (rw [parse_length]; exact F.sz24) | (rw [lb]; exact F.sz24) | (rw [lc]; exact F.sz24) | exact F.sz24) A_g14 (by rw [cells8_size]; first | (rw [hl]; rfl) | (rw [parse_length]; rfl) | (rw [lb]; rfl) | (rw [lc]; rfl) | rfl) (by simpa using cells8_one _) ?_; intro w28 M_g14
      replace A_g3 := M_g14.keep A_g3 (Nat.ne_of_lt L_g3_g14)
      replace A_g5 := M_g14.keep A_g5 (Nat.ne_of_lt L_g5_g14)
      replace A_g8 := M_g14.keep A_g8 (Nat.ne_of_lt L_g8_g14)
      replace A_g10 := M_g14.keep A_g10 (Nat.ne_of_lt L_g10_g14)
      replace A_g72 := M_g14.keep A_g72 (Nat.ne_of_lt L_g72_g14)
      replace A_g14 : Kw.At w28 g14 (cells8 zeros32) 24 := M_g14.at_ A_g14
      replace HB := M_g14.below HB G_g14; clear M_g14
      refine Kw.WL_v rfl rfl rfl (Kw.R_assign rfl) ?_
      refine Kw.WL_nil ?_
      refine hK25 _ _ ?_; clear hK25 K25
      refine Kw.WC_seq (fun K29 hK29 => ?_)
      refine Kw.WC_region [some 85, some 86, some 87, some 88, some 89, some 90, some 91, some 92, some 93, some 94, some 95, some 96, some 97, some 98, some 99, some 100, some 101, some 102, some 16] rfl ?_
      refine Kw.WL_v rfl rfl rfl (Kw.R_indexAddrA (i := 1) (o' := 1) rfl rfl Tryd.underlying31 F.sz5 (by decide) (rfl)) ?_
      refine Kw.WL_v rfl rfl rfl (Kw.R_load1 rfl Tryd.underlying5 rfl A_g5 rfl) ?_
      by_cases c30 : (48 : Int) ≤ a1
      ·
        refine Kw.WL_v rfl rfl rfl (Kw.R_geq (z := true) rfl rfl (decide_eq_true c30)) ?_
        refine Kw.WL_v rfl rfl rfl (Kw.R_move rfl) ?_
        refine Kw.WL_v rfl rfl rfl (Kw.R_indexAddrA (i := 1) (o' := 1) rfl rfl Tryd.underlying31 F.sz5 (by decide) (rfl)) ?_
        refine Kw.WL_v rfl rfl rfl (Kw.R_load1 rfl Tryd.underlying5 rfl A_g5 rfl) ?_
        by_cases c31 : (a1 : Int) ≤ 57
        ·
          refine Kw.WL_v rfl rfl rfl (Kw.R_leq (z := true) rfl rfl (decide_eq_true c31)) ?_
          refine Kw.WL_v rfl rfl rfl (Kw.R_pickt rfl rfl) ?_
          refine Kw.WL_v rfl rfl rfl (Kw.R_move rfl) ?_
          refine Kw.WL_off rfl rfl rfl ?_
          refine Kw.WL_off rfl rfl rfl ?_
          refine Kw.WL_off rfl rfl rfl ?_
          refine Kw.WL_off rfl rfl rfl ?_
          refine Kw.WL_off rfl rfl rfl ?_
          refine Kw.WL_off rfl rfl rfl ?_
          refine Kw.WL_off rfl rfl rfl ?_
          refine Kw.WL_off rfl rfl rfl ?_
          exfalso; first | exact digit_not_lo hdig (by assumption) | exact digit_not_mid hdig (by assumption) (by assumption) | exact digit_not_hi hdig (by assumption) | exact digit_is_num hdig (by assumption) (by assumption) | exact digit_is_let hdig (by assumption) (by assumption)
        ·
          refine Kw.WL_v rfl rfl rfl (Kw.R_leq (z := false) rfl rfl (decide_eq_false c31)) ?_
          refine Kw.WL_v rfl rfl rfl (Kw.R_pickt rfl rfl) ?_
          refine Kw.WL_v rfl rfl rfl (Kw.R_move rfl) ?_
          refine Kw.WL_v rfl rfl rfl (Kw.R_indexAddrA (i := 1) (o' := 1) rfl rfl Tryd.underlying31 F.sz5 (by decide) (rfl)) ?_
          refine Kw.WL_v rfl rfl rfl (Kw.R_load1 rfl Tryd.underlying5 rfl A_g5 rfl) ?_
          by_cases c32 : (97 : Int) ≤ a1
          ·
            refine Kw.WL_v rfl rfl rfl (Kw.R_geq (z := true) rfl rfl (decide_eq_true c32)) ?_
            refine Kw.WL_v rfl rfl rfl (Kw.R_move rfl) ?_
            refine Kw.WL_v rfl rfl rfl (Kw.R_indexAddrA (i := 1) (o' := 1) rfl rfl Tryd.underlying31 F.sz5 (by decide) (rfl)) ?_
            refine Kw.WL_v rfl rfl rfl (Kw.R_load1 rfl Tryd.underlying5 rfl A_g5 rfl) ?_
            by_cases c33 : (a1 : Int) ≤ 102
            ·
              refine Kw.WL_v rfl rfl rfl (Kw.R_leq (z := true) rfl rfl (decide_eq_true c33)) ?_
              refine Kw.WL_v rfl rfl rfl (Kw.R_pickt rfl rfl) ?_
              exfalso; first | exact digit_not_lo hdig (by assumption) | exact digit_not_mid hdig (by assumption) (by assumption) | exact digit_not_hi hdig (by assumption) | exact digit_is_num hdig (by assumption) (by assumption) | exact digit_is_let hdig (by assumption) (by assumption)
            ·
              refine Kw.WL_v rfl rfl rfl (Kw.R_leq (z := false) rfl rfl (decide_eq_false c33)) ?_
              refine Kw.WL_v rfl rfl rfl (Kw.R_pickt rfl rfl) ?_
              refine Kw.WL_v rfl rfl rfl (Kw.R_pickf rfl rfl) ?_
              refine Kw.WL_v rfl rfl rfl (Kw.R_assign rfl) ?_
              refine Kw.WL_nil ?_
              refine hK29 _ _ ?_; clear hK29 K29
              refine Kw.WC_sub (l' := [(3, .pointer (some ⟨g3, 0, none⟩)), (7, .string (hexS h)), (13, .string (putU (hexS h) k a1)), (14, .pointer (some ⟨g14, 0, none⟩)), (15, .bool false), (16, .bool false)]) (Kw.Sub.cons rfl (Kw.Sub.cons rfl (Kw.Sub.cons rfl (Kw.Sub.cons rfl (Kw.Sub.cons rfl (Kw.Sub.cons rfl Kw.Sub.nil)))))) ?_
              refine Kw.WC_seq (fun K34 hK34 => ?_)
              refine Kw.WC_sched (fun ww => Kw.At ww g3 (cells8 h) 24 ∧ Kw.At ww g14 (cells8 zeros32) 24 ∧ True) [(0, true), (1, true), (2, true), (3, true), (4, true), (5, true), (6, true), (7, true), (8, true), (9, true), (10, true), (11, true), (12, true), (13, true), (14, true), (15, true), (16, true), (17, true), (18, true), (19, true), (20, true), (21, true), (22, true), (23, true), (24, true), (25, false), (26, true), (27, true)] [some 103, some 104, some 105, some 106, some 107, some 108, some 109, some 110, some 111, some 112, some 113, some 114, some 115, some 116, some 117, some 118, some 119, some 120, some 121, some 122, some 123, some 124, some 125, some 126, some 127, some 128, some 129, some 6] rfl (by kernel_rfl) rfl (by kernel_rfl) ?_
              obtain ⟨w35, hww35⟩ : ∃ x : World, x = Go.World.drew w28 := ⟨_, rfl⟩
              rw [← hww35]
              replace A_g3 : Kw.At w35 g3 (cells8 h) 24 := by rw [hww35]; exact A_g3
              replace A_g5 : Kw.At w35 g5 #[.int .u8 a0, .int .u8 a1] 31 := by rw [hww35]; exact A_g5
              replace A_g8 : Kw.At w35 g8 (cells8 h) 24 := by rw [hww35]; exact A_g8
              replace A_g10 : Kw.At w35 g10 (cells8 zeros32) 24 := by rw [hww35]; exact A_g10
              replace A_g72 : Kw.At w35 g72 #[.int .u8 a1] 5 := by rw [hww35]; exact A_g72
              replace A_g14 : Kw.At w35 g14 (cells8 zeros32) 24 := by rw [hww35]; exact A_g14
              replace HB : Below w.heap.size w w35 := by rw [hww35]; exact HB.drew
              clear hww35
              have hS : Kw.At w35 g3 (cells8 h) 24 ∧ Kw.At w35 g14 (cells8 zeros32) 24 ∧ True := ⟨A_g3, A_g14, trivial⟩
              refine Kw.WX_take rfl rfl rfl rfl (fun _ _ _ h => h) hS (fun _ ⟨A_g3, A_g14, _⟩ => Kw.R_move rfl) ?_
              refine Kw.WX_take rfl rfl rfl rfl (fun _ _ _ h => h) hS (fun _ ⟨A_g3, A_g14, _⟩ => Kw.R_move rfl) ?_
              refine Kw.WX_take rfl rfl rfl rfl (fun _ _ _ h => h) hS (fun _ ⟨A_g3, A_g14, _⟩ => Kw.R_eqb rfl rfl Tryd.underlying4 rfl) ?_
              refine Kw.WX_take rfl rfl rfl rfl (fun _ _ _ h => h) hS (fun _ ⟨A_g3, A_g14, _⟩ => Kw.R_move rfl) ?_
              refine Kw.WX_take rfl rfl rfl rfl (fun _ _ _ h => h) hS (fun _ ⟨A_g3, A_g14, _⟩ => Kw.R_loadW rfl Tryd.underlying24 rfl (by rw [cells8_size]; first | (rw [hl]; exact F.sz24) | (rw [parse_length]; exact F.sz24) | (rw [lb]; exact F.sz24) | (rw [lc]; exact F.sz24) | exact F.sz24) A_g14) ?_
              refine Kw.WX_take rfl rfl rfl rfl (fun _ _ _ h => h) hS (fun _ ⟨A_g3, A_g14, _⟩ => Kw.R_loadW rfl Tryd.underlying24 rfl (by rw [cells8_size]; first | (rw [hl]; exact F.sz24) | (rw [parse_length]; exact F.sz24) | (rw [lb]; exact F.sz24) | (rw [lc]; exact F.sz24) | exact F.sz24) A_g3) ?_
              refine Kw.WX_take rfl rfl rfl rfl (fun _ _ _ h => h) hS (fun _ ⟨A_g3, A_g14, _⟩ => R_eqh rfl rfl rfl hl bytes_zeros hn hz) ?_
              refine Kw.WX_take rfl rfl rfl rfl (fun _ _ _ h => h) hS (fun _ ⟨A_g3, A_g14, _⟩ => Kw.R_move rfl) ?_
              refine Kw.WX_take rfl rfl rfl rfl (fun _ _ _ h => h) hS (fun _ ⟨A_g3, A_g14, _⟩ => Kw.R_move rfl) ?_
              refine Kw.WX_off rfl rfl rfl rfl (fun _ _ _ h => h) hS ?_
              refine Kw.WX_off rfl rfl rfl rfl (fun _ _ _ h => h) hS ?_
              refine Kw.WX_off rfl rfl rfl rfl (fun _ _ _ h => h) hS ?_
              refine Kw.WX_take rfl rfl rfl rfl (fun _ _ _ h => h) hS (fun _ ⟨A_g3, A_g14, _⟩ => Kw.R_pickf rfl rfl) ?_
              refine Kw.WX_take rfl rfl rfl rfl (fun _ _ _ h => h) hS (fun _ ⟨A_g3, A_g14, _⟩ => Kw.R_move rfl) ?_
              refine Kw.WX_take rfl rfl rfl rfl (fun _ _ _ h => h) hS (fun _ ⟨A_g3, A_g14, _⟩ => Kw.R_move rfl) ?_
              refine Kw.WX_take rfl rfl rfl rfl (fun _ _ _ h => h) hS (fun _ ⟨A_g3, A_g14, _⟩ => Kw.R_not rfl rfl) ?_
              refine Kw.WX_take rfl rfl rfl rfl (fun _ _ _ h => h) hS (fun _ ⟨A_g3, A_g14, _⟩ => Kw.R_move rfl) ?_
              refine Kw.WX_take rfl rfl rfl rfl (fun _ _ _ h => h) hS (fun _ ⟨A_g3, A_g14, _⟩ => Kw.R_loadW rfl Tryd.underlying24 rfl (by rw [cells8_size]; first | (rw [hl]; exact F.sz24) | (rw [parse_length]; exact F.sz24) | (rw [lb]; exact F.sz24) | (rw [lc]; exact F.sz24) | exact F.sz24) A_g3) ?_
              refine Kw.WX_take rfl rfl rfl rfl (fun _ _ _ h => h) hS (fun _ ⟨A_g3, A_g14, _⟩ => R_bh) ?_
              refine Kw.WX_take rfl rfl rfl rfl (fun _ _ _ h => h) hS (fun _ ⟨A_g3, A_g14, _⟩ => R_eqh rfl rfl hl rfl hn bytes_zeros ((decide_eq_decide.2 ⟨Eq.symm, Eq.symm⟩).trans hz)) ?_
              refine Kw.WX_take rfl rfl rfl rfl (fun _ _ _ h => h) hS (fun _ ⟨A_g3, A_g14, _⟩ => Kw.R_pickt rfl rfl) ?_
              refine Kw.WX_take rfl rfl rfl rfl (fun _ _ _ h => h) hS (fun _ ⟨A_g3, A_g14, _⟩ => Kw.R_pickf rfl rfl) ?_
              refine Kw.WX_take rfl rfl rfl rfl (fun _ _ _ h => h) hS (fun _ ⟨A_g3, A_g14, _⟩ => Kw.R_eqb (z := true) rfl rfl Tryd.underlying4 (by simp)) ?_
              refine Kw.WX_take rfl rfl rfl rfl (fun _ _ _ h => h) hS (fun _ ⟨A_g3, A_g14, _⟩ => Kw.R_pickt rfl rfl) ?_
              refine Kw.WX_take rfl rfl rfl rfl (fun _ _ _ h => h) hS (fun _ ⟨A_g3, A_g14, _⟩ => Kw.R_move rfl) ?_
              refine Kw.WX_callc rfl rfl rfl rfl rfl F.cl10 rfl (Ha _ HB) ?_; intro w37 bw37
              clear hS
              replace A_g3 := A_g3.call bw37
              replace A_g5 := A_g5.call bw37
              replace A_g8 := A_g8.call bw37
              replace A_g10 := A_g10.call bw37
              replace A_g72 := A_g72.call bw37
              replace A_g14 := A_g14.call bw37
              replace HB := Kw.Below.then HB (Nat.le_refl _) bw37
              have hS : Kw.At w37 g3 (cells8 h) 24 ∧ Kw.At w37 g14 (cells8 zeros32) 24 ∧ True := ⟨A_g3, A_g14, trivial⟩
              clear bw37
              refine ⟨hS, ?_⟩
              refine Kw.WX_take rfl rfl rfl rfl (fun _ _ _ h => h) hS (fun _ ⟨A_g3, A_g14, _⟩ => Kw.R_pickt rfl rfl) ?_
              refine Kw.WX_take rfl rfl rfl rfl (fun _ _ _ h => h) hS (fun _ ⟨A_g3, A_g14, _⟩ => Kw.R_assign rfl) ?_
              refine Kw.WX_nil ?_
              clear hS
              refine hK34 _ _ ?_; clear hK34 K34
              refine Kw.WC_sub (l' := [(6, .bool true)]) (Kw.Sub.cons rfl Kw.Sub.nil) ?_
              refine Kw.WC_ret ?_
              exact Kw.post_ret1 rfl rfl ⟨rfl, HB⟩
          ·
            refine Kw.WL_v rfl rfl rfl (Kw.R_geq (z := false) rfl rfl (decide_eq_false c32)) ?_
            refine Kw.WL_v rfl rfl rfl (Kw.R_move rfl) ?_
            refine Kw.WL_off rfl rfl rfl ?_
            refine Kw.WL_off rfl rfl rfl ?_
            refine Kw.WL_off rfl rfl rfl ?_
            refine Kw.WL_v rfl rfl rfl (Kw.R_pickf rfl rfl) ?_
            refine Kw.WL_v rfl rfl rfl (Kw.R_pickf rfl rfl) ?_
            refine Kw.WL_v rfl rfl rfl (Kw.R_assign rfl) ?_
            refine Kw.WL_nil ?_
            refine hK29 _ _ ?_; clear hK29 K29
            refine Kw.WC_sub (l' := [(3, .pointer (some ⟨g3, 0, none⟩)), (7, .string (hexS h)), (13, .string (putU (hexS h) k a1)), (14, .pointer (some ⟨g14, 0, none⟩)), (15, .bool false), (16, .bool false)]) (Kw.Sub.cons rfl (Kw.Sub.cons rfl (Kw.Sub.cons rfl (Kw.Sub.cons rfl (Kw.Sub.cons rfl (Kw.Sub.cons rfl Kw.Sub.nil)))))) ?_
            refine Kw.WC_seq (fun K38 hK38 => ?_)
            refine Kw.WC_sched (fun ww => Kw.At ww g3 (cells8 h) 24 ∧ Kw.At ww g14 (cells8 zeros32) 24 ∧ True) [(0, true), (1, true), (2, true), (3, true), (4, true), (5, true), (6, true), (7, true), (8, true), (9, true), (10, true), (11, true), (12, true), (13, true), (14, true), (15, true), (16, true), (17, true), (18, true), (19, true), (20, true), (21, true), (22, true), (23, true), (24, true), (25, false), (26, true), (27, true)] [some 103, some 104, some 105, some 106, some 107, some 108, some 109, some 110, some 111, some 112, some 113, some 114, some 115, some 116, some 117, some 118, some 119, some 120, some 121, some 122, some 123, some 124, some 125, some 126, some 127, some 128, some 129, some 6] rfl (by kernel_rfl) rfl (by kernel_rfl) ?_
            obtain ⟨w39, hww39⟩ : ∃ x : World, x = Go.World.drew w28 := ⟨_, rfl⟩
            rw [← hww39]
            replace A_g3 : Kw.At w39 g3 (cells8 h) 24 := by rw [hww39]; exact A_g3
            replace A_g5 : Kw.At w39 g5 #[.int .u8 a0, .int .u8 a1] 31 := by rw [hww39]; exact A_g5
            replace A_g8 : Kw.At w39 g8 (cells8 h) 24 := by rw [hww39]; exact A_g8
            replace A_g10 : Kw.At w39 g10 (cells8 zeros32) 24 := by rw [hww39]; exact A_g10
            replace A_g72 : Kw.At w39 g72 #[.int .u8 a1] 5 := by rw [hww39]; exact A_g72
            replace A_g14 : Kw.At w39 g14 (cells8 zeros32) 24 := by rw [hww39]; exact A_g14
            replace HB : Below w.heap.size w w39 := by rw [hww39]; exact HB.drew
            clear hww39
            have hS : Kw.At w39 g3 (cells8 h) 24 ∧ Kw.At w39 g14 (cells8 zeros32) 24 ∧ True := ⟨A_g3, A_g14, trivial⟩
            refine Kw.WX_take rfl rfl rfl rfl (fun _ _ _ h => h) hS (fun _ ⟨A_g3, A_g14, _⟩ => Kw.R_move rfl) ?_
            refine Kw.WX_take rfl rfl rfl rfl (fun _ _ _ h => h) hS (fun _ ⟨A_g3, A_g14, _⟩ => Kw.R_move rfl) ?_
            refine Kw.WX_take rfl rfl rfl rfl (fun _ _ _ h => h) hS (fun _ ⟨A_g3, A_g14, _⟩ => Kw.R_eqb rfl rfl Tryd.underlying4 rfl) ?_
            refine Kw.WX_take rfl rfl rfl rfl (fun _ _ _ h => h) hS (fun _ ⟨A_g3, A_g14, _⟩ => Kw.R_move rfl) ?_
            refine Kw.WX_take rfl rfl rfl rfl (fun _ _ _ h => h) hS (fun _ ⟨A_g3, A_g14, _⟩ => Kw.R_loadW rfl Tryd.underlying24 rfl (by rw [cells8_size]; first | (rw [hl]; exact F.sz24) | (rw [parse_length]; exact F.sz24) | (rw [lb]; exact F.sz24) | (rw [lc]; exact F.sz24) | exact F.sz24) A_g14) ?_
            refine Kw.WX_take rfl rfl rfl rfl (fun _ _ _ h => h) hS (fun _ ⟨A_g3, A_g14, _⟩ => Kw.R_loadW rfl Tryd.underlying24 rfl (by rw [cells8_size]; first | (rw [hl]; exact F.sz24) | (rw [parse_length]; exact F.sz24) | (rw [lb]; exact F.sz24) | (rw [lc]; exact F.sz24) | exact F.sz24) A_g3) ?_
            refine Kw.WX_take rfl rfl rfl rfl (fun _ _ _ h => h) hS (fun _ ⟨A_g3, A_g14, _⟩ => R_eqh rfl rfl rfl hl bytes_zeros hn hz) ?_
            refine Kw.WX_take rfl rfl rfl rfl (fun _ _ _ h => h) hS (fun _ ⟨A_g3, A_g14, _⟩ => Kw.R_move rfl) ?_
            refine Kw.WX_take rfl rfl rfl rfl (fun _ _ _ h => h) hS (fun _ ⟨A_g3, A_g14, _⟩ => Kw.R_move rfl) ?_
            refine Kw.WX_off rfl rfl rfl rfl (fun _ _ _ h => h) hS ?_
            refine Kw.WX_off rfl rfl rfl rfl (fun _ _ _ h => h) hS ?_
            refine Kw.WX_off rfl rfl rfl rfl (fun _ _ _ h => h) hS ?_
            refine Kw.WX_take rfl rfl rfl rfl (fun _ _ _ h => h) hS (fun _ ⟨A_g3, A_g14, _⟩ => Kw.R_pickf rfl rfl) ?_
            refine Kw.WX_take rfl rfl rfl rfl (fun _ _ _ h => h) hS (fun _ ⟨A_g3, A_g14, _⟩ => Kw.R_move rfl) ?_
            refine Kw.WX_take rfl rfl rfl rfl (fun _ _ _ h => h) hS (fun _ ⟨A_g3, A_g14, _⟩ => Kw.R_move rfl) ?_
            refine Kw.WX_take rfl rfl rfl rfl (fun _ _ _ h => h) hS (fun _ ⟨A_g3, A_g14, _⟩ => Kw.R_not rfl rfl) ?_
            refine Kw.WX_take rfl rfl rfl rfl (fun _ _ _ h => h) hS (fun _ ⟨A_g3, A_g14, _⟩ => Kw.R_move rfl) ?_
            refine Kw.WX_take rfl rfl rfl rfl (fun _ _ _ h => h) hS (fun _ ⟨A_g3, A_g14, _⟩ => Kw.R_loadW rfl Tryd.underlying24 rfl (by rw [cells8_size]; first | (rw [hl]; exact F.sz24) | (rw [parse_length]; exact F.sz24) | (rw [lb]; exact F.sz24) | (rw [lc]; exact F.sz24) | exact F.sz24) A_g3) ?_
            refine Kw.WX_take rfl rfl rfl rfl (fun _ _ _ h => h) hS (fun _ ⟨A_g3, A_g14, _⟩ => R_bh) ?_
            refine Kw.WX_take rfl rfl rfl rfl (fun _ _ _ h => h) hS (fun _ ⟨A_g3, A_g14, _⟩ => R_eqh rfl rfl hl rfl hn bytes_zeros ((decide_eq_decide.2 ⟨Eq.symm, Eq.symm⟩).trans hz)) ?_
            refine Kw.WX_take rfl rfl rfl rfl (fun _ _ _ h => h) hS (fun _ ⟨A_g3, A_g14, _⟩ => Kw.R_pickt rfl rfl) ?_
            refine Kw.WX_take rfl rfl rfl rfl (fun _ _ _ h => h) hS (fun _ ⟨A_g3, A_g14, _⟩ => Kw.R_pickf rfl rfl) ?_
            refine Kw.WX_take rfl rfl rfl rfl (fun _ _ _ h => h) hS (fun _ ⟨A_g3, A_g14, _⟩ => Kw.R_eqb (z := true) rfl rfl Tryd.underlying4 (by simp)) ?_
            refine Kw.WX_take rfl rfl rfl rfl (fun _ _ _ h => h) hS (fun _ ⟨A_g3, A_g14, _⟩ => Kw.R_pickt rfl rfl) ?_
            refine Kw.WX_take rfl rfl rfl rfl (fun _ _ _ h => h) hS (fun _ ⟨A_g3, A_g14, _⟩ => Kw.R_move rfl) ?_
            refine Kw.WX_callc rfl rfl rfl rfl rfl F.cl10 rfl (Ha _ HB) ?_; intro w41 bw41
            clear hS
            replace A_g3 := A_g3.call bw41
            replace A_g5 := A_g5.call bw41
            replace A_g8 := A_g8.call bw41
            replace A_g10 := A_g10.call bw41
            replace A_g72 := A_g72.call bw41
            replace A_g14 := A_g14.call bw41
            replace HB := Kw.Below.then HB (Nat.le_refl _) bw41
            have hS : Kw.At w41 g3 (cells8 h) 24 ∧ Kw.At w41 g14 (cells8 zeros32) 24 ∧ True := ⟨A_g3, A_g14, trivial⟩
            clear bw41
            refine ⟨hS, ?_⟩
            refine Kw.WX_take rfl rfl rfl rfl (fun _ _ _ h => h) hS (fun _ ⟨A_g3, A_g14, _⟩ => Kw.R_pickt rfl rfl) ?_
            refine Kw.WX_take rfl rfl rfl rfl (fun _ _ _ h => h) hS (fun _ ⟨A_g3, A_g14, _⟩ => Kw.R_assign rfl) ?_
            refine Kw.WX_nil ?_
            clear hS
            refine hK38 _ _ ?_; clear hK38 K38
            refine Kw.WC_sub (l' := [(6, .bool true)]) (Kw.Sub.cons rfl Kw.Sub.nil) ?_
            refine Kw.WC_ret ?_
            exact Kw.post_ret1 rfl rfl ⟨rfl, HB⟩
      ·
        refine Kw.WL_v rfl rfl rfl (Kw.R_geq (z := false) rfl rfl (decide_eq_false c30)) ?_
        refine Kw.WL_v rfl rfl rfl (Kw.R_move rfl) ?_
        refine Kw.WL_off rfl rfl rfl ?_
        refine Kw.WL_off rfl rfl rfl ?_
        refine Kw.WL_off rfl rfl rfl ?_
        refine Kw.WL_v rfl rfl rfl (Kw.R_pickf rfl rfl) ?_
        refine Kw.WL_v rfl rfl rfl (Kw.R_move rfl) ?_
        refine Kw.WL_v rfl rfl rfl (Kw.R_indexAddrA (i := 1) (o' := 1) rfl rfl Tryd.underlying31 F.sz5 (by decide) (rfl)) ?_
        refine Kw.WL_v rfl rfl rfl (Kw.R_load1 rfl Tryd.underlying5 rfl A_g5 rfl) ?_
        by_cases c42 : (97 : Int) ≤ a1
        ·
          refine Kw.WL_v rfl rfl rfl (Kw.R_geq (z := true) rfl rfl (decide_eq_true c42)) ?_
          refine Kw.WL_v rfl rfl rfl (Kw.R_move rfl) ?_
          refine Kw.WL_v rfl rfl rfl (Kw.R_indexAddrA (i := 1) (o' := 1) rfl rfl Tryd.underlying31 F.sz5 (by decide) (rfl)) ?_
          refine Kw.WL_v rfl rfl rfl (Kw.R_load1 rfl Tryd.underlying5 rfl A_g5 rfl) ?_
          by_cases c43 : (a1 : Int) ≤ 102
          ·
            refine Kw.WL_v rfl rfl rfl (Kw.R_leq (z := true) rfl rfl (decide_eq_true c43)) ?_
            refine Kw.WL_v rfl rfl rfl (Kw.R_pickt rfl rfl) ?_
            exfalso; first | exact digit_not_lo hdig (by assumption) | exact digit_not_mid hdig (by assumption) (by assumption) | exact digit_not_hi hdig (by assumption) | exact digit_is_num hdig (by assumption) (by assumption) | exact digit_is_let hdig (by assumption) (by assumption)
          ·
            refine Kw.WL_v rfl rfl rfl (Kw.R_leq (z := false) rfl rfl (decide_eq_false c43)) ?_
            refine Kw.WL_v rfl rfl rfl (Kw.R_pickt rfl rfl) ?_
            refine Kw.WL_v rfl rfl rfl (Kw.R_pickf rfl rfl) ?_
            refine Kw.WL_v rfl rfl rfl (Kw.R_assign rfl) ?_
            refine Kw.WL_nil ?_
            refine hK29 _ _ ?_; clear hK29 K29
            refine Kw.WC_sub (l' := [(3, .pointer (some ⟨g3, 0, none⟩)), (7, .string (hexS h)), (13, .string (putU (hexS h) k a1)), (14, .pointer (some ⟨g14, 0, none⟩)), (15, .bool false), (16, .bool false)]) (Kw.Sub.cons rfl (Kw.Sub.cons rfl (Kw.Sub.cons rfl (Kw.Sub.cons rfl (Kw.Sub.cons rfl (Kw.Sub.cons rfl Kw.Sub.nil)))))) ?_
            refine Kw.WC_seq (fun K44 hK44 => ?_)
            refine Kw.WC_sched (fun ww => Kw.At ww g3 (cells8 h) 24 ∧ Kw.At ww g14 (cells8 zeros32) 24 ∧ True) [(0, true), (1, true), (2, true), (3, true), (4, true), (5, true), (6, true), (7, true), (8, true), (9, true), (10, true), (11, true), (12, true), (13, true), (14, true), (15, true), (16, true), (17, true), (18, true), (19, true), (20, true), (21, true), (22, true), (23, true), (24, true), (25, false), (26, true), (27, true)] [some 103, some 104, some 105, some 106, some 107, some 108, some 109, some 110, some 111, some 112, some 113, some 114, some 115, some 116, some 117, some 118, some 119, some 120, some 121, some 122, some 123, some 124, some 125, some 126, some 127, some 128, some 129, some 6] rfl (by kernel_rfl) rfl (by kernel_rfl) ?_
            obtain ⟨w45, hww45⟩ : ∃ x : World, x = Go.World.drew w28 := ⟨_, rfl⟩
            rw [← hww45]
            replace A_g3 : Kw.At w45 g3 (cells8 h) 24 := by rw [hww45]; exact A_g3
            replace A_g5 : Kw.At w45 g5 #[.int .u8 a0, .int .u8 a1] 31 := by rw [hww45]; exact A_g5
            replace A_g8 : Kw.At w45 g8 (cells8 h) 24 := by rw [hww45]; exact A_g8
            replace A_g10 : Kw.At w45 g10 (cells8 zeros32) 24 := by rw [hww45]; exact A_g10
            replace A_g72 : Kw.At w45 g72 #[.int .u8 a1] 5 := by rw [hww45]; exact A_g72
            replace A_g14 : Kw.At w45 g14 (cells8 zeros32) 24 := by rw [hww45]; exact A_g14
            replace HB : Below w.heap.size w w45 := by rw [hww45]; exact HB.drew
            clear hww45
            have hS : Kw.At w45 g3 (cells8 h) 24 ∧ Kw.At w45 g14 (cells8 zeros32) 24 ∧ True := ⟨A_g3, A_g14, trivial⟩
            refine Kw.WX_take rfl rfl rfl rfl (fun _ _ _ h => h) hS (fun _ ⟨A_g3, A_g14, _⟩ => Kw.R_move rfl) ?_
            refine Kw.WX_take rfl rfl rfl rfl (fun _ _ _ h => h) hS (fun _ ⟨A_g3, A_g14, _⟩ => Kw.R_move rfl) ?_
            refine Kw.WX_take rfl rfl rfl rfl (fun _ _ _ h => h) hS (fun _ ⟨A_g3, A_g14, _⟩ => Kw.R_eqb rfl rfl Tryd.underlying4 rfl) ?_
            refine Kw.WX_take rfl rfl rfl rfl (fun _ _ _ h => h) hS (fun _ ⟨A_g3, A_g14, _⟩ => Kw.R_move rfl) ?_
            refine Kw.WX_take rfl rfl rfl rfl (fun _ _ _ h => h) hS (fun _ ⟨A_g3, A_g14, _⟩ => Kw.R_loadW rfl Tryd.underlying24 rfl (by rw [cells8_size]; first | (rw [hl]; exact F.sz24) | (rw [parse_length]; exact F.sz24) | (rw [lb]; exact F.sz24) | (rw [lc]; exact F.sz24) | exact F.sz24) A_g14) ?_
            refine Kw.WX_take rfl rfl rfl rfl (fun _ _ _ h => h) hS (fun _ ⟨A_g3, A_g14, _⟩ => Kw.R_loadW rfl Tryd.underlying24 rfl (by rw [cells8_size]; first | (rw [hl]; exact F.sz24) | (rw [parse_length]; exact F.sz24) | (rw [lb]; exact F.sz24) | (rw [lc]; exact F.sz24) | exact F.sz24) A_g3) ?_
            refine Kw.WX_take rfl rfl rfl rfl (fun _ _ _ h => h) hS (fun _ ⟨A_g3, A_g14, _⟩ => R_eqh rfl rfl rfl hl bytes_zeros hn hz) ?_
            refine Kw.WX_take rfl rfl rfl rfl (fun _ _ _ h => h) hS (fun _ ⟨A_g3, A_g14, _⟩ => Kw.R_move rfl) ?_
            refine Kw.WX_take rfl rfl rfl rfl (fun _ _ _ h => h) hS (fun _ ⟨A_g3, A_g14, _⟩ => Kw.R_move rfl) ?_
            refine Kw.WX_off rfl rfl rfl rfl (fun _ _ _ h => h) hS ?_
            refine Kw.WX_off rfl rfl rfl rfl (fun _ _ _ h => h) hS ?_
            refine Kw.WX_off rfl rfl rfl rfl (fun _ _ _ h => h) hS ?_
            refine Kw.WX_take rfl rfl rfl rfl (fun _ _ _ h => h) hS (fun _ ⟨A_g3, A_g14, _⟩ => Kw.R_pickf rfl rfl) ?_
            refine Kw.WX_take rfl rfl rfl rfl (fun _ _ _ h => h) hS (fun _ ⟨A_g3, A_g14, _⟩ => Kw.R_move rfl) ?_
            refine Kw.WX_take rfl rfl rfl rfl (fun _ _ _ h => h) hS (fun _ ⟨A_g3, A_g14, _⟩ => Kw.R_move rfl) ?_
            refine Kw.WX_take rfl rfl rfl rfl (fun _ _ _ h => h) hS (fun _ ⟨A_g3, A_g14, _⟩ => Kw.R_not rfl rfl) ?_
            refine Kw.WX_take rfl rfl rfl rfl (fun _ _ _ h => h) hS (fun _ ⟨A_g3, A_g14, _⟩ => Kw.R_move rfl) ?_
            refine Kw.WX_take rfl rfl rfl rfl (fun _ _ _ h => h) hS (fun _ ⟨A_g3, A_g14, _⟩ => Kw.R_loadW rfl Tryd.underlying24 rfl (by rw [cells8_size]; first | (rw [hl]; exact F.sz24) | (rw [parse_length]; exact F.sz24) | (rw [lb]; exact F.sz24) | (rw [lc]; exact F.sz24) | exact F.sz24) A_g3) ?_
            refine Kw.WX_take rfl rfl rfl rfl (fun _ _ _ h => h) hS (fun _ ⟨A_g3, A_g14, _⟩ => R_bh) ?_
            refine Kw.WX_take rfl rfl rfl rfl (fun _ _ _ h => h) hS (fun _ ⟨A_g3, A_g14, _⟩ => R_eqh rfl rfl hl rfl hn bytes_zeros ((decide_eq_decide.2 ⟨Eq.symm, Eq.symm⟩).trans hz)) ?_
            refine Kw.WX_take rfl rfl rfl rfl (fun _ _ _ h => h) hS (fun _ ⟨A_g3, A_g14, _⟩ => Kw.R_pickt rfl rfl) ?_
            refine Kw.WX_take rfl rfl rfl rfl (fun _ _ _ h => h) hS (fun _ ⟨A_g3, A_g14, _⟩ => Kw.R_pickf rfl rfl) ?_
            refine Kw.WX_take rfl rfl rfl rfl (fun _ _ _ h => h) hS (fun _ ⟨A_g3, A_g14, _⟩ => Kw.R_eqb (z := true) rfl rfl Tryd.underlying4 (by simp)) ?_
            refine Kw.WX_take rfl rfl rfl rfl (fun _ _ _ h => h) hS (fun _ ⟨A_g3, A_g14, _⟩ => Kw.R_pickt rfl rfl) ?_
            refine Kw.WX_take rfl rfl rfl rfl (fun _ _ _ h => h) hS (fun _ ⟨A_g3, A_g14, _⟩ => Kw.R_move rfl) ?_
            refine Kw.WX_callc rfl rfl rfl rfl rfl F.cl10 rfl (Ha _ HB) ?_; intro w47 bw47
            clear hS
            replace A_g3 := A_g3.call bw47
            replace A_g5 := A_g5.call bw47
            replace A_g8 := A_g8.call bw47
            replace A_g10 := A_g10.call bw47
            replace A_g72 := A_g72.call bw47
            replace A_g14 := A_g14.call bw47
            replace HB := Kw.Below.then HB (Nat.le_refl _) bw47
            have hS : Kw.At w47 g3 (cells8 h) 24 ∧ Kw.At w47 g14 (cells8 zeros32) 24 ∧ True := ⟨A_g3, A_g14, trivial⟩
            clear bw47
            refine ⟨hS, ?_⟩
            refine Kw.WX_take rfl rfl rfl rfl (fun _ _ _ h => h) hS (fun _ ⟨A_g3, A_g14, _⟩ => Kw.R_pickt rfl rfl) ?_
            refine Kw.WX_take rfl rfl rfl rfl (fun _ _ _ h => h) hS (fun _ ⟨A_g3, A_g14, _⟩ => Kw.R_assign rfl) ?_
            refine Kw.WX_nil ?_
            clear hS
            refine hK44 _ _ ?_; clear hK44 K44
            refine Kw.WC_sub (l' := [(6, .bool true)]) (Kw.Sub.cons rfl Kw.Sub.nil) ?_
            refine Kw.WC_ret ?_
            exact Kw.post_ret1 rfl rfl ⟨rfl, HB⟩
        ·
          refine Kw.WL_v rfl rfl rfl (Kw.R_geq (z := false) rfl rfl (decide_eq_false c42)) ?_
          refine Kw.WL_v rfl rfl rfl (Kw.R_move rfl) ?_
          refine Kw.WL_off rfl rfl rfl ?_
          refine Kw.WL_off rfl rfl rfl ?_
          refine Kw.WL_off rfl rfl rfl ?_
          refine Kw.WL_v rfl rfl rfl (Kw.R_pickf rfl rfl) ?_
          refine Kw.WL_v rfl rfl rfl (Kw.R_pickf rfl rfl) ?_
          refine Kw.WL_v rfl rfl rfl (Kw.R_assign rfl) ?_
          refine Kw.WL_nil ?_
          refine hK29 _ _ ?_; clear hK29 K29
          refine Kw.WC_sub (l' := [(3, .pointer (some ⟨g3, 0, none⟩)), (7, .string (hexS h)), (13, .string (putU (hexS h) k a1)), (14, .pointer (some ⟨g14, 0, none⟩)), (15, .bool false), (16, .bool false)]) (Kw.Sub.cons rfl (Kw.Sub.cons rfl (Kw.Sub.cons rfl (Kw.Sub.cons rfl (Kw.Sub.cons rfl (Kw.Sub.cons rfl Kw.Sub.nil)))))) ?_
          refine Kw.WC_seq (fun K48 hK48 => ?_)
          refine Kw.WC_sched (fun ww => Kw.At ww g3 (cells8 h) 24 ∧ Kw.At ww g14 (cells8 zeros32) 24 ∧ True) [(0, true), (1, true), (2, true), (3, true), (4, true), (5, true), (6, true), (7, true), (8, true), (9, true), (10, true), (11, true), (12, true), (13, true), (14, true), (15, true), (16, true), (17, true), (18, true), (19, true), (20, true), (21, true), (22, true), (23, true), (24, true), (25, false), (26, true), (27, true)] [some 103, some 104, some 105, some 106, some 107, some 108, some 109, some 110, some 111, some 112, some 113, some 114, some 115, some 116, some 117, some 118, some 119, some 120, some 121, some 122, some 123, some 124, some 125, some 126, some 127, some 128, some 129, some 6] rfl (by kernel_rfl) rfl (by kernel_rfl) ?_
          obtain ⟨w49, hww49⟩ : ∃ x : World, x = Go.World.drew w28 := ⟨_, rfl⟩
          rw [← hww49]
          replace A_g3 : Kw.At w49 g3 (cells8 h) 24 := by rw [hww49]; exact A_g3
          replace A_g5 : Kw.At w49 g5 #[.int .u8 a0, .int .u8 a1] 31 := by rw [hww49]; exact A_g5
          replace A_g8 : Kw.At w49 g8 (cells8 h) 24 := by rw [hww49]; exact A_g8
          replace A_g10 : Kw.At w49 g10 (cells8 zeros32) 24 := by rw [hww49]; exact A_g10
          replace A_g72 : Kw.At w49 g72 #[.int .u8 a1] 5 := by rw [hww49]; exact A_g72
          replace A_g14 : Kw.At w49 g14 (cells8 zeros32) 24 := by rw [hww49]; exact A_g14
          replace HB : Below w.heap.size w w49 := by rw [hww49]; exact HB.drew
          clear hww49
          have hS : Kw.At w49 g3 (cells8 h) 24 ∧ Kw.At w49 g14 (cells8 zeros32) 24 ∧ True := ⟨A_g3, A_g14, trivial⟩
          refine Kw.WX_take rfl rfl rfl rfl (fun _ _ _ h => h) hS (fun _ ⟨A_g3, A_g14, _⟩ => Kw.R_move rfl) ?_
          refine Kw.WX_take rfl rfl rfl rfl (fun _ _ _ h => h) hS (fun _ ⟨A_g3, A_g14, _⟩ => Kw.R_move rfl) ?_
          refine Kw.WX_take rfl rfl rfl rfl (fun _ _ _ h => h) hS (fun _ ⟨A_g3, A_g14, _⟩ => Kw.R_eqb rfl rfl Tryd.underlying4 rfl) ?_
          refine Kw.WX_take rfl rfl rfl rfl (fun _ _ _ h => h) hS (fun _ ⟨A_g3, A_g14, _⟩ => Kw.R_move rfl) ?_
          refine Kw.WX_take rfl rfl rfl rfl (fun _ _ _ h => h) hS (fun _ ⟨A_g3, A_g14, _⟩ => Kw.R_loadW rfl Tryd.underlying24 rfl (by rw [cells8_size]; first | (rw [hl]; exact F.sz24) | (rw [parse_length]; exact F.sz24) | (rw [lb]; exact F.sz24) | (rw [lc]; exact F.sz24) | exact F.sz24) A_g14) ?_
          refine Kw.WX_take rfl rfl rfl rfl (fun _ _ _ h => h) hS (fun _ ⟨A_g3, A_g14, _⟩ => Kw.R_loadW rfl Tryd.underlying24 rfl (by rw [cells8_size]; first | (rw [hl]; exact F.sz24) | (rw [parse_length]; exact F.sz24) | (rw [lb]; exact F.sz24) | (rw [lc]; exact F.sz24) | exact F.sz24) A_g3) ?_
          refine Kw.WX_take rfl rfl rfl rfl (fun _ _ _ h => h) hS (fun _ ⟨A_g3, A_g14, _⟩ => R_eqh rfl rfl rfl hl bytes_zeros hn hz) ?_
          refine Kw.WX_take rfl rfl rfl rfl (fun _ _ _ h => h) hS (fun _ ⟨A_g3, A_g14, _⟩ => Kw.R_move rfl) ?_
          refine Kw.WX_take rfl rfl rfl rfl (fun _ _ _ h => h) hS (fun _ ⟨A_g3, A_g14, _⟩ => Kw.R_move rfl) ?_
          refine Kw.WX_off rfl rfl rfl rfl (fun _ _ _ h => h) hS ?_
          refine Kw.WX_off rfl rfl rfl rfl (fun _ _ _ h => h) hS ?_
          refine Kw.WX_off rfl rfl rfl rfl (fun _ _ _ h => h) hS ?_
          refine Kw.WX_take rfl rfl rfl rfl (fun _ _ _ h => h) hS (fun _ ⟨A_g3, A_g14, _⟩ => Kw.R_pickf rfl rfl) ?_
          refine Kw.WX_take rfl rfl rfl rfl (fun _ _ _ h => h) hS (fun _ ⟨A_g3, A_g14, _⟩ => Kw.R_move rfl) ?_
          refine Kw.WX_take rfl rfl rfl rfl (fun _ _ _ h => h) hS (fun _ ⟨A_g3, A_g14, _⟩ => Kw.R_move rfl) ?_
          refine Kw.WX_take rfl rfl rfl rfl (fun _ _ _ h => h) hS (fun _ ⟨A_g3, A_g14, _⟩ => Kw.R_not rfl rfl) ?_
          refine Kw.WX_take rfl rfl rfl rfl (fun _ _ _ h => h) hS (fun _ ⟨A_g3, A_g14, _⟩ => Kw.R_move rfl) ?_
          refine Kw.WX_take rfl rfl rfl rfl (fun _ _ _ h => h) hS (fun _ ⟨A_g3, A_g14, _⟩ => Kw.R_loadW rfl Tryd.underlying24 rfl (by rw [cells8_size]; first | (rw [hl]; exact F.sz24) | (rw [parse_length]; exact F.sz24) | (rw [lb]; exact F.sz24) | (rw [lc]; exact F.sz24) | exact F.sz24) A_g3) ?_
          refine Kw.WX_take rfl rfl rfl rfl (fun _ _ _ h => h) hS (fun _ ⟨A_g3, A_g14, _⟩ => R_bh) ?_
          refine Kw.WX_take rfl rfl rfl rfl (fun _ _ _ h => h) hS (fun _ ⟨A_g3, A_g14, _⟩ => R_eqh rfl rfl hl rfl hn bytes_zeros ((decide_eq_decide.2 ⟨Eq.symm, Eq.symm⟩).trans hz)) ?_
          refine Kw.WX_take rfl rfl rfl rfl (fun _ _ _ h => h) hS (fun _ ⟨A_g3, A_g14, _⟩ => Kw.R_pickt rfl rfl) ?_
          refine Kw.WX_take rfl rfl rfl rfl (fun _ _ _ h => h) hS (fun _ ⟨A_g3, A_g14, _⟩ => Kw.R_pickf rfl rfl) ?_
          refine Kw.WX_take rfl rfl rfl rfl (fun _ _ _ h => h) hS (fun _ ⟨A_g3, A_g14, _⟩ => Kw.R_eqb (z := true) rfl rfl Tryd.underlying4 (by simp)) ?_
          refine Kw.WX_take rfl rfl rfl rfl (fun _ _ _ h => h) hS (fun _ ⟨A_g3, A_g14, _⟩ => Kw.R_pickt rfl rfl) ?_
          refine Kw.WX_take rfl rfl rfl rfl (fun _ _ _ h => h) hS (fun _ ⟨A_g3, A_g14, _⟩ => Kw.R_move rfl) ?_
          refine Kw.WX_callc rfl rfl rfl rfl rfl F.cl10 rfl (Ha _ HB) ?_; intro w51 bw51
          clear hS
          replace A_g3 := A_g3.call bw51
          replace A_g5 := A_g5.call bw51
          replace A_g8 := A_g8.call bw51
          replace A_g10 := A_g10.call bw51
          replace A_g72 := A_g72.call bw51
          replace A_g14 := A_g14.call bw51
          replace HB := Kw.Below.then HB (Nat.le_refl _) bw51
          have hS : Kw.At w51 g3 (cells8 h) 24 ∧ Kw.At w51 g14 (cells8 zeros32) 24 ∧ True := ⟨A_g3, A_g14, trivial⟩
          clear bw51
          refine ⟨hS, ?_⟩
          refine Kw.WX_take rfl rfl rfl rfl (fun _ _ _ h => h) hS (fun _ ⟨A_g3, A_g14, _⟩ => Kw.R_pickt rfl rfl) ?_
          refine Kw.WX_take rfl rfl rfl rfl (fun _ _ _ h => h) hS (fun _ ⟨A_g3, A_g14, _⟩ => Kw.R_assign rfl) ?_
          refine Kw.WX_nil ?_
          clear hS
          refine hK48 _ _ ?_; clear hK48 K48
          refine Kw.WC_sub (l' := [(6, .bool true)]) (Kw.Sub.cons rfl Kw.Sub.nil) ?_
          refine Kw.WC_ret ?_
          exact Kw.post_ret1 rfl rfl ⟨rfl, HB⟩
    ·
      refine Kw.WL_callc rfl rfl rfl rfl F.cl13 rfl (parse_S _ c hod _) ?_; intro w52 bw52
      replace A_g3 := A_g3.call bw52
      replace A_g5 := A_g5.call bw52
      replace A_g8 := A_g8.call bw52
      replace A_g10 := A_g10.call bw52
      replace A_g72 := A_g72.call bw52
      replace HB := Kw.Below.then HB (Nat.le_refl _) bw52
      clear bw52
      obtain ⟨z, hz⟩ : ∃ z, decide (c = h) = z := ⟨_, rfl⟩
      refine Kw.WL_v rfl rfl rfl (Kw.R_move rfl) ?_
      refine Kw.WL_v rfl rfl rfl (Kw.R_extract rfl rfl) ?_
      refine Kw.WL_v rfl rfl rfl (Kw.R_extract rfl rfl) ?_
      refine Kw.WL_alloc rfl rfl F.zr24 ?_; intro g14 w53 N_g14
      have L_g3_g14 := N_g14.ne A_g3; replace A_g3 := N_g14.keep A_g3
      have L_g5_g14 := N_g14.ne A_g5; replace A_g5 := N_g14.keep A_g5
      have L_g8_g14 := N_g14.ne A_g8; replace A_g8 := N_g14.keep A_g8
      have L_g10_g14 := N_g14.ne A_g10; replace A_g10 := N_g14.keep A_g10
      have L_g72_g14 := N_g14.ne A_g72; replace A_g72 := N_g14.keep A_g72
      have A_g14 : Kw.At w53 g14 F.Z24 24 := N_g14.at_
      have G_g14 := N_g14.ge HB (Nat.le_refl _); replace HB := N_g14.below HB (Nat.le_refl _); clear N_g14
      refine Kw.WL_storeW rfl rfl rfl (by rw [cells8_size]; first | (rw [hl]; exact F.sz24) | (rw [parse_length]; exact F.sz24) | (rw [lb]; exact F.sz24) | (rw [lc]; exact F.sz24) | exact F.sz24) A_g14 (by rw [cells8_size]; first | (rw [hl]; rfl) | (rw [parse_length]; rfl) | (rw [lb]; rfl) | (rw [lc]; rfl) | rfl) (by simpa using cells8_one _) ?_; intro w54 M_g14
      replace A_g3 := M_g14.keep A_g3 (Nat.ne_of_lt L_g3_g14)
      replace A_g5 := M_g14.keep A_g5 (Nat.ne_of_lt L_g5_g14)
      replace A_g8 := M_g14.keep A_g8 (Nat.ne_of_lt L_g8_g14)
      replace A_g10 := M_g14.keep A_g10 (Nat.ne_of_lt L_g10_g14)
      replace A_g72 := M_g14.keep A_g72 (Nat.ne_of_lt L_g72_g14)
      replace A_g14 : Kw.At w54 g14 (cells8 c) 24 := M_g14.at_ A_g14
      replace HB := M_g14.below HB G_g14; clear M_g14
      refine Kw.WL_v rfl rfl rfl (Kw.R_assign rfl) ?_
      refine Kw.WL_nil ?_
      refine hK25 _ _ ?_; clear hK25 K25
      refine Kw.WC_seq (fun K55 hK55 => ?_)
      refine Kw.WC_region [some 85, some 86, some 87, some 88, some 89, some 90, some 91, some 92, some 93, some 94, some 95, some 96, some 97, some 98, some 99, some 100, some 101, some 102, some 16] rfl ?_
      refine Kw.WL_v rfl rfl rfl (Kw.R_indexAddrA (i := 1) (o' := 1) rfl rfl Tryd.underlying31 F.sz5 (by decide) (rfl)) ?_
      refine Kw.WL_v rfl rfl rfl (Kw.R_load1 rfl Tryd.underlying5 rfl A_g5 rfl) ?_
      by_cases c56 : (48 : Int) ≤ a1
      ·
        refine Kw.WL_v rfl rfl rfl (Kw.R_geq (z := true) rfl rfl (decide_eq_true c56)) ?_
        refine Kw.WL_v rfl rfl rfl (Kw.R_move rfl) ?_
        refine Kw.WL_v rfl rfl rfl (Kw.R_indexAddrA (i := 1) (o' := 1) rfl rfl Tryd.underlying31 F.sz5 (by decide) (rfl)) ?_
        refine Kw.WL_v rfl rfl rfl (Kw.R_load1 rfl Tryd.underlying5 rfl A_g5 rfl) ?_
        by_cases c57 : (a1 : Int) ≤ 57
        ·
          refine Kw.WL_v rfl rfl rfl (Kw.R_leq (z := true) rfl rfl (decide_eq_true c57)) ?_
          refine Kw.WL_v rfl rfl rfl (Kw.R_pickt rfl rfl) ?_
          refine Kw.WL_v rfl rfl rfl (Kw.R_move rfl) ?_
          refine Kw.WL_off rfl rfl rfl ?_
          refine Kw.WL_off rfl rfl rfl ?_
          refine Kw.WL_off rfl rfl rfl ?_
          refine Kw.WL_off rfl rfl rfl ?_
          refine Kw.WL_off rfl rfl rfl ?_
          refine Kw.WL_off rfl rfl rfl ?_
          refine Kw.WL_off rfl rfl rfl ?_
          refine Kw.WL_off rfl rfl rfl ?_
          refine Kw.WL_v rfl rfl rfl (Kw.R_pickt rfl rfl) ?_
          refine Kw.WL_v rfl rfl rfl (Kw.R_assign rfl) ?_
          refine Kw.WL_nil ?_
          refine hK55 _ _ ?_; clear hK55 K55
          refine Kw.WC_sub (l' := [(3, .pointer (some ⟨g3, 0, none⟩)), (7, .string (hexS h)), (13, .string (putU (hexS h) k a1)), (14, .pointer (some ⟨g14, 0, none⟩)), (15, .bool true), (16, .bool true)]) (Kw.Sub.cons rfl (Kw.Sub.cons rfl (Kw.Sub.cons rfl (Kw.Sub.cons rfl (Kw.Sub.cons rfl (Kw.Sub.cons rfl Kw.Sub.nil)))))) ?_
          refine Kw.WC_seq (fun K58 hK58 => ?_)
          refine Kw.WC_sched (fun ww => Kw.At ww g3 (cells8 h) 24 ∧ Kw.At ww g14 (cells8 c) 24 ∧ True) [(0, true), (1, true), (2, true), (3, true), (4, true), (5, true), (6, true), (7, true), (8, true), (9, true), (10, true), (11, true), (12, true), (13, true), (14, true), (15, true), (16, true), (17, true), (18, true), (19, true), (20, true), (21, true), (22, true), (23, true), (24, true), (25, false), (26, true), (27, true)] [some 103, some 104, some 105, some 106, some 107, some 108, some 109, some 110, some 111, some 112, some 113, some 114, some 115, some 116, some 117, some 118, some 119, some 120, some 121, some 122, some 123, some 124, some 125, some 126, some 127, some 128, some 129, some 6] rfl (by kernel_rfl) rfl (by kernel_rfl) ?_
          obtain ⟨w59, hww59⟩ : ∃ x : World, x = Go.World.drew w54 := ⟨_, rfl⟩
          rw [← hww59]
          replace A_g3 : Kw.At w59 g3 (cells8 h) 24 := by rw [hww59]; exact A_g3
          replace A_g5 : Kw.At w59 g5 #[.int .u8 a0, .int .u8 a1] 31 := by rw [hww59]; exact A_g5
          replace A_g8 : Kw.At w59 g8 (cells8 h) 24 := by rw [hww59]; exact A_g8
          replace A_g10 : Kw.At w59 g10 (cells8 zeros32) 24 := by rw [hww59]; exact A_g10
          replace A_g72 : Kw.At w59 g72 #[.int .u8 a1] 5 := by rw [hww59]; exact A_g72
          replace A_g14 : Kw.At w59 g14 (cells8 c) 24 := by rw [hww59]; exact A_g14
          replace HB : Below w.heap.size w w59 := by rw [hww59]; exact HB.drew
          clear hww59
          have hS : Kw.At w59 g3 (cells8 h) 24 ∧ Kw.At w59 g14 (cells8 c) 24 ∧ True := ⟨A_g3, A_g14, trivial⟩
          refine Kw.WX_take rfl rfl rfl rfl (fun _ _ _ h => h) hS (fun _ ⟨A_g3, A_g14, _⟩ => Kw.R_move rfl) ?_
          refine Kw.WX_take rfl rfl rfl rfl (fun _ _ _ h => h) hS (fun _ ⟨A_g3, A_g14, _⟩ => Kw.R_move rfl) ?_
          refine Kw.WX_take rfl rfl rfl rfl (fun _ _ _ h => h) hS (fun _ ⟨A_g3, A_g14, _⟩ => Kw.R_eqb rfl rfl Tryd.underlying4 rfl) ?_
          refine Kw.WX_take rfl rfl rfl rfl (fun _ _ _ h => h) hS (fun _ ⟨A_g3, A_g14, _⟩ => Kw.R_move rfl) ?_
          refine Kw.WX_take rfl rfl rfl rfl (fun _ _ _ h => h) hS (fun _ ⟨A_g3, A_g14, _⟩ => Kw.R_loadW rfl Tryd.underlying24 rfl (by rw [cells8_size]; first | (rw [hl]; exact F.sz24) | (rw [parse_length]; exact F.sz24) | (rw [lb]; exact F.sz24) | (rw [lc]; exact F.sz24) | exact F.sz24) A_g14) ?_
          refine Kw.WX_take rfl rfl rfl rfl (fun _ _ _ h => h) hS (fun _ ⟨A_g3, A_g14, _⟩ => Kw.R_loadW rfl Tryd.underlying24 rfl (by rw [cells8_size]; first | (rw [hl]; exact F.sz24) | (rw [parse_length]; exact F.sz24) | (rw [lb]; exact F.sz24) | (rw [lc]; exact F.sz24) | exact F.sz24) A_g3) ?_
          refine Kw.WX_take rfl rfl rfl rfl (fun _ _ _ h => h) hS (fun _ ⟨A_g3, A_g14, _⟩ => R_eqh rfl rfl lc hl bc hn hz) ?_
          refine Kw.WX_take rfl rfl rfl rfl (fun _ _ _ h => h) hS (fun _ ⟨A_g3, A_g14, _⟩ => Kw.R_move rfl) ?_
          refine Kw.WX_take rfl rfl rfl rfl (fun _ _ _ h => h) hS (fun _ ⟨A_g3, A_g14, _⟩ => Kw.R_move rfl) ?_
          refine Kw.WX_take rfl rfl rfl rfl (fun _ _ _ h => h) hS (fun _ ⟨A_g3, A_g14, _⟩ => Kw.R_move rfl) ?_
          refine Kw.WX_take rfl rfl rfl rfl (fun _ _ _ h => h) hS (fun _ ⟨A_g3, A_g14, _⟩ => Kw.R_move rfl) ?_
          refine Kw.WX_take rfl rfl rfl rfl (fun _ _ _ h => h) hS (fun _ ⟨A_g3, A_g14, _⟩ => Kw.R_eqs rfl rfl ((decide_eq_decide.2 hcu).trans hz)) ?_
          refine Kw.WX_take rfl rfl rfl rfl (fun _ _ _ h => h) hS (fun _ ⟨A_g3, A_g14, _⟩ => Kw.R_pickt rfl rfl) ?_
          cases z
          ·
            refine Kw.WX_take rfl rfl rfl rfl (fun _ _ _ h => h) hS (fun _ ⟨A_g3, A_g14, _⟩ => Kw.R_move rfl) ?_
            refine Kw.WX_take rfl rfl rfl rfl (fun _ _ _ h => h) hS (fun _ ⟨A_g3, A_g14, _⟩ => Kw.R_move rfl) ?_
            refine Kw.WX_take rfl rfl rfl rfl (fun _ _ _ h => h) hS (fun _ ⟨A_g3, A_g14, _⟩ => Kw.R_not rfl rfl) ?_
            refine Kw.WX_take rfl rfl rfl rfl (fun _ _ _ h => h) hS (fun _ ⟨A_g3, A_g14, _⟩ => Kw.R_move rfl) ?_
            refine Kw.WX_off rfl rfl rfl rfl (fun _ _ _ h => h) hS ?_
            refine Kw.WX_off rfl rfl rfl rfl (fun _ _ _ h => h) hS ?_
            refine Kw.WX_off rfl rfl rfl rfl (fun _ _ _ h => h) hS ?_
            refine Kw.WX_take rfl rfl rfl rfl (fun _ _ _ h => h) hS (fun _ ⟨A_g3, A_g14, _⟩ => Kw.R_pickf rfl rfl) ?_
            refine Kw.WX_take rfl rfl rfl rfl (fun _ _ _ h => h) hS (fun _ ⟨A_g3, A_g14, _⟩ => Kw.R_pickf rfl rfl) ?_
            refine Kw.WX_take rfl rfl rfl rfl (fun _ _ _ h => h) hS (fun _ ⟨A_g3, A_g14, _⟩ => Kw.R_eqb rfl rfl Tryd.underlying4 rfl) ?_
            refine Kw.WX_take rfl rfl rfl rfl (fun _ _ _ h => h) hS (fun _ ⟨A_g3, A_g14, _⟩ => Kw.R_pickt rfl rfl) ?_
            refine Kw.WX_take rfl rfl rfl rfl (fun _ _ _ h => h) hS (fun _ ⟨A_g3, A_g14, _⟩ => Kw.R_move rfl) ?_
            refine Kw.WX_callc rfl rfl rfl rfl rfl F.cl10 rfl (Ha _ HB) ?_; intro w62 bw62
            clear hS
            replace A_g3 := A_g3.call bw62
            replace A_g5 := A_g5.call bw62
            replace A_g8 := A_g8.call bw62
            replace A_g10 := A_g10.call bw62
            replace A_g72 := A_g72.call bw62
            replace A_g14 := A_g14.call bw62
            replace HB := Kw.Below.then HB (Nat.le_refl _) bw62
            have hS : Kw.At w62 g3 (cells8 h) 24 ∧ Kw.At w62 g14 (cells8 c) 24 ∧ True := ⟨A_g3, A_g14, trivial⟩
            clear bw62
            refine ⟨hS, ?_⟩
            refine Kw.WX_take rfl rfl rfl rfl (fun _ _ _ h => h) hS (fun _ ⟨A_g3, A_g14, _⟩ => Kw.R_pickt rfl rfl) ?_
            refine Kw.WX_take rfl rfl rfl rfl (fun _ _ _ h => h) hS (fun _ ⟨A_g3, A_g14, _⟩ => Kw.R_assign rfl) ?_
            refine Kw.WX_nil ?_
            clear hS
            refine hK58 _ _ ?_; clear hK58 K58
            refine Kw.WC_sub (l' := [(6, .bool true)]) (Kw.Sub.cons rfl Kw.Sub.nil) ?_
            refine Kw.WC_ret ?_
            exact Kw.post_ret1 rfl rfl ⟨rfl, HB⟩
          ·
            refine Kw.WX_take rfl rfl rfl rfl (fun _ _ _ h => h) hS (fun _ ⟨A_g3, A_g14, _⟩ => Kw.R_move rfl) ?_
            refine Kw.WX_off rfl rfl rfl rfl (fun _ _ _ h => h) hS ?_
            refine Kw.WX_off rfl rfl rfl rfl (fun _ _ _ h => h) hS ?_
            refine Kw.WX_off rfl rfl rfl rfl (fun _ _ _ h => h) hS ?_
            refine Kw.WX_off rfl rfl rfl rfl (fun _ _ _ h => h) hS ?_
            refine Kw.WX_off rfl rfl rfl rfl (fun _ _ _ h => h) hS ?_
            refine Kw.WX_off rfl rfl rfl rfl (fun _ _ _ h => h) hS ?_
            refine Kw.WX_off rfl rfl rfl rfl (fun _ _ _ h => h) hS ?_
            refine Kw.WX_take rfl rfl rfl rfl (fun _ _ _ h => h) hS (fun _ ⟨A_g3, A_g14, _⟩ => Kw.R_pickt rfl rfl) ?_
            refine Kw.WX_take rfl rfl rfl rfl (fun _ _ _ h => h) hS (fun _ ⟨A_g3, A_g14, _⟩ => Kw.R_eqb rfl rfl Tryd.underlying4 rfl) ?_
            refine Kw.WX_take rfl rfl rfl rfl (fun _ _ _ h => h) hS (fun _ ⟨A_g3, A_g14, _⟩ => Kw.R_pickt rfl rfl) ?_
            refine Kw.WX_take rfl rfl rfl rfl (fun _ _ _ h => h) hS (fun _ ⟨A_g3, A_g14, _⟩ => Kw.R_move rfl) ?_
            refine Kw.WX_callc rfl rfl rfl rfl rfl F.cl10 rfl (Ha _ HB) ?_; intro w64 bw64
            clear hS
            replace A_g3 := A_g3.call bw64
            replace A_g5 := A_g5.call bw64
            replace A_g8 := A_g8.call bw64
            replace A_g10 := A_g10.call bw64
            replace A_g72 := A_g72.call bw64
            replace A_g14 := A_g14.call bw64
            replace HB := Kw.Below.then HB (Nat.le_refl _) bw64
            have hS : Kw.At w64 g3 (cells8 h) 24 ∧ Kw.At w64 g14 (cells8 c) 24 ∧ True := ⟨A_g3, A_g14, trivial⟩
            clear bw64
            refine ⟨hS, ?_⟩
            refine Kw.WX_take rfl rfl rfl rfl (fun _ _ _ h => h) hS (fun _ ⟨A_g3, A_g14, _⟩ => Kw.R_pickt rfl rfl) ?_
            refine Kw.WX_take rfl rfl rfl rfl (fun _ _ _ h => h) hS (fun _ ⟨A_g3, A_g14, _⟩ => Kw.R_assign rfl) ?_
            refine Kw.WX_nil ?_
            clear hS
            refine hK58 _ _ ?_; clear hK58 K58
            refine Kw.WC_sub (l' := [(6, .bool true)]) (Kw.Sub.cons rfl Kw.Sub.nil) ?_
            refine Kw.WC_ret ?_
            exact Kw.post_ret1 rfl rfl ⟨rfl, HB⟩
        ·
          refine Kw.WL_v rfl rfl rfl (Kw.R_leq (z := false) rfl rfl (decide_eq_false c57)) ?_
          refine Kw.WL_v rfl rfl rfl (Kw.R_pickt rfl rfl) ?_
          refine Kw.WL_v rfl rfl rfl (Kw.R_move rfl) ?_
          refine Kw.WL_v rfl rfl rfl (Kw.R_indexAddrA (i := 1) (o' := 1) rfl rfl Tryd.underlying31 F.sz5 (by decide) (rfl)) ?_
          refine Kw.WL_v rfl rfl rfl (Kw.R_load1 rfl Tryd.underlying5 rfl A_g5 rfl) ?_
          by_cases c65 : (97 : Int) ≤ a1
          ·
            refine Kw.WL_v rfl rfl rfl (Kw.R_geq (z := true) rfl rfl (decide_eq_true c65)) ?_
            refine Kw.WL_v rfl rfl rfl (Kw.R_move rfl) ?_
            refine Kw.WL_v rfl rfl rfl (Kw.R_indexAddrA (i := 1) (o' := 1) rfl rfl Tryd.underlying31 F.sz5 (by decide) (rfl)) ?_
            refine Kw.WL_v rfl rfl rfl (Kw.R_load1 rfl Tryd.underlying5 rfl A_g5 rfl) ?_
            by_cases c66 : (a1 : Int) ≤ 102
            ·
              refine Kw.WL_v rfl rfl rfl (Kw.R_leq (z := true) rfl rfl (decide_eq_true c66)) ?_
              refine Kw.WL_v rfl rfl rfl (Kw.R_pickt rfl rfl) ?_
              refine Kw.WL_v rfl rfl rfl (Kw.R_pickf rfl rfl) ?_
              refine Kw.WL_v rfl rfl rfl (Kw.R_assign rfl) ?_
              refine Kw.WL_nil ?_
              refine hK55 _ _ ?_; clear hK55 K55
              refine Kw.WC_sub (l' := [(3, .pointer (some ⟨g3, 0, none⟩)), (7, .string (hexS h)), (13, .string (putU (hexS h) k a1)), (14, .pointer (some ⟨g14, 0, none⟩)), (15, .bool true), (16, .bool true)]) (Kw.Sub.cons rfl (Kw.Sub.cons rfl (Kw.Sub.cons rfl (Kw.Sub.cons rfl (Kw.Sub.cons rfl (Kw.Sub.cons rfl Kw.Sub.nil)))))) ?_
              refine Kw.WC_seq (fun K67 hK67 => ?_)
              refine Kw.WC_sched (fun ww => Kw.At ww g3 (cells8 h) 24 ∧ Kw.At ww g14 (cells8 c) 24 ∧ True) [(0, true), (1, true), (2, true), (3, true), (4, true), (5, true), (6, true), (7, true), (8, true), (9, true), (10, true), (11, true), (12, true), (13, true), (14, true), (15, true), (16, true), (17, true), (18, true), (19, true), (20, true), (21, true), (22, true), (23, true), (24, true), (25, false), (26, true), (27, true)] [some 103, some 104, some 105, some 106, some 107, some 108, some 109, some 110, some 111, some 112, some 113, some 114, some 115, some 116, some 117, some 118, some 119, some 120, some 121, some 122, some 123, some 124, some 125, some 126, some 127, some 128, some 129, some 6] rfl (by kernel_rfl) rfl (by kernel_rfl) ?_
              obtain ⟨w68, hww68⟩ : ∃ x : World, x = Go.World.drew w54 := ⟨_, rfl⟩
              rw [← hww68]
              replace A_g3 : Kw.At w68 g3 (cells8 h) 24 := by rw [hww68]; exact A_g3
              replace A_g5 : Kw.At w68 g5 #[.int .u8 a0, .int .u8 a1] 31 := by rw [hww68]; exact A_g5
              replace A_g8 : Kw.At w68 g8 (cells8 h) 24 := by rw [hww68]; exact A_g8
              replace A_g10 : Kw.At w68 g10 (cells8 zeros32) 24 := by rw [hww68]; exact A_g10
              replace A_g72 : Kw.At w68 g72 #[.int .u8 a1] 5 := by rw [hww68]; exact A_g72
              replace A_g14 : Kw.At w68 g14 (cells8 c) 24 := by rw [hww68]; exact A_g14
              replace HB : Below w.heap.size w w68 := by rw [hww68]; exact HB.drew
              clear hww68
              have hS : Kw.At w68 g3 (cells8 h) 24 ∧ Kw.At w68 g14 (cells8 c) 24 ∧ True := ⟨A_g3, A_g14, trivial⟩
              refine Kw.WX_take rfl rfl rfl rfl (fun _ _ _ h => h) hS (fun _ ⟨A_g3, A_g14, _⟩ => Kw.R_move rfl) ?_
              refine Kw.WX_take rfl rfl rfl rfl (fun _ _ _ h => h) hS (fun _ ⟨A_g3, A_g14, _⟩ => Kw.R_move rfl) ?_
              refine Kw.WX_take rfl rfl rfl rfl (fun _ _ _ h => h) hS (fun _ ⟨A_g3, A_g14, _⟩ => Kw.R_eqb rfl rfl Tryd.underlying4 rfl) ?_
              refine Kw.WX_take rfl rfl rfl rfl (fun _ _ _ h => h) hS (fun _ ⟨A_g3, A_g14, _⟩ => Kw.R_move rfl) ?_
              refine Kw.WX_take rfl rfl rfl rfl (fun _ _ _ h => h) hS (fun _ ⟨A_g3, A_g14, _⟩ => Kw.R_loadW rfl Tryd.underlying24 rfl (by rw [cells8_size]; first | (rw [hl]; exact F.sz24) | (rw [parse_length]; exact F.sz24) | (rw [lb]; exact F.sz24) | (rw [lc]; exact F.sz24) | exact F.sz24) A_g14) ?_
              refine Kw.WX_take rfl rfl rfl rfl (fun _ _ _ h => h) hS (fun _ ⟨A_g3, A_g14, _⟩ => Kw.R_loadW rfl Tryd.underlying24 rfl (by rw [cells8_size]; first | (rw [hl]; exact F.sz24) | (rw [parse_length]; exact F.sz24) | (rw [lb]; exact F.sz24) | (rw [lc]; exact F.sz24) | exact F.sz24) A_g3) ?_
              refine Kw.WX_take rfl rfl rfl rfl (fun _ _ _ h => h) hS (fun _ ⟨A_g3, A_g14, _⟩ => R_eqh rfl rfl lc hl bc hn hz) ?_
              refine Kw.WX_take rfl rfl rfl rfl (fun _ _ _ h => h) hS (fun _ ⟨A_g3, A_g14, _⟩ => Kw.R_move rfl) ?_
              refine Kw.WX_take rfl rfl rfl rfl (fun _ _ _ h => h) hS (fun _ ⟨A_g3, A_g14, _⟩ => Kw.R_move rfl) ?_
              refine Kw.WX_take rfl rfl rfl rfl (fun _ _ _ h => h) hS (fun _ ⟨A_g3, A_g14, _⟩ => Kw.R_move rfl) ?_
              refine Kw.WX_take rfl rfl rfl rfl (fun _ _ _ h => h) hS (fun _ ⟨A_g3, A_g14, _⟩ => Kw.R_move rfl) ?_
              refine Kw.WX_take rfl rfl rfl rfl (fun _ _ _ h => h) hS (fun _ ⟨A_g3, A_g14, _⟩ => Kw.R_eqs rfl rfl ((decide_eq_decide.2 hcu).trans hz)) ?_
              refine Kw.WX_take rfl rfl rfl rfl (fun _ _ _ h => h) hS (fun _ ⟨A_g3, A_g14, _⟩ => Kw.R_pickt rfl rfl) ?_
              cases z
              ·
                refine Kw.WX_take rfl rfl rfl rfl (fun _ _ _ h => h) hS (fun _ ⟨A_g3, A_g14, _⟩ => Kw.R_move rfl) ?_
                refine Kw.WX_take rfl rfl rfl rfl (fun _ _ _ h => h) hS (fun _ ⟨A_g3, A_g14, _⟩ => Kw.R_move rfl) ?_
                refine Kw.WX_take rfl rfl rfl rfl (fun _ _ _ h => h) hS (fun _ ⟨A_g3, A_g14, _⟩ => Kw.R_not rfl rfl) ?_
                refine Kw.WX_take rfl rfl rfl rfl (fun _ _ _ h => h) hS (fun _ ⟨A_g3, A_g14, _⟩ => Kw.R_move rfl) ?_
                refine Kw.WX_off rfl rfl rfl rfl (fun _ _ _ h => h) hS ?_
                refine Kw.WX_off rfl rfl rfl rfl (fun _ _ _ h => h) hS ?_
                refine Kw.WX_off rfl rfl rfl rfl (fun _ _ _ h => h) hS ?_
                refine Kw.WX_take rfl rfl rfl rfl (fun _ _ _ h => h) hS (fun _ ⟨A_g3, A_g14, _⟩ => Kw.R_pickf rfl rfl) ?_
                refine Kw.WX_take rfl rfl rfl rfl (fun _ _ _ h => h) hS (fun _ ⟨A_g3, A_g14, _⟩ => Kw.R_pickf rfl rfl) ?_
                refine Kw.WX_take rfl rfl rfl rfl (fun _ _ _ h => h) hS (fun _ ⟨A_g3, A_g14, _⟩ => Kw.R_eqb rfl rfl Tryd.underlying4 rfl) ?_
                refine Kw.WX_take rfl rfl rfl rfl (fun _ _ _ h => h) hS (fun _ ⟨A_g3, A_g14, _⟩ => Kw.R_pickt rfl rfl) ?_
                refine Kw.WX_take rfl rfl rfl rfl (fun _ _ _ h => h) hS (fun _ ⟨A_g3, A_g14, _⟩ => Kw.R_move rfl) ?_
                refine Kw.WX_callc rfl rfl rfl rfl rfl F.cl10 rfl (Ha _ HB) ?_; intro w71 bw71
                clear hS
                replace A_g3 := A_g3.call bw71
                replace A_g5 := A_g5.call bw71
                replace A_g8 := A_g8.call bw71
                replace A_g10 := A_g10.call bw71
                replace A_g72 := A_g72.call bw71
                replace A_g14 := A_g14.call bw71
                replace HB := Kw.Below.then HB (Nat.le_refl _) bw71
                have hS : Kw.At w71 g3 (cells8 h) 24 ∧ Kw.At w71 g14 (cells8 c) 24 ∧ True := ⟨A_g3, A_g14, trivial⟩
                clear bw71
                refine ⟨hS, ?_⟩
                refine Kw.WX_take rfl rfl rfl rfl (fun _ _ _ h => h) hS (fun _ ⟨A_g3, A_g14, _⟩ => Kw.R_pickt rfl rfl) ?_
                refine Kw.WX_take rfl rfl rfl rfl (fun _ _ _ h => h) hS (fun _ ⟨A_g3, A_g14, _⟩ => Kw.R_assign rfl) ?_
                refine Kw.WX_nil ?_
                clear hS
                refine hK67 _ _ ?_; clear hK67 K67
                refine Kw.WC_sub (l' := [(6, .bool true)]) (Kw.Sub.cons rfl Kw.Sub.nil) ?_
                refine Kw.WC_ret ?_
                exact Kw.post_ret1 rfl rfl ⟨rfl, HB⟩
              ·
                refine Kw.WX_take rfl rfl rfl rfl (fun _ _ _ h => h) hS (fun _ ⟨A_g3, A_g14, _⟩ => Kw.R_move rfl) ?_
                refine Kw.WX_off rfl rfl rfl rfl (fun _ _ _ h => h) hS ?_
                refine Kw.WX_off rfl rfl rfl rfl (fun _ _ _ h => h) hS ?_
                refine Kw.WX_off rfl rfl rfl rfl (fun _ _ _ h => h) hS ?_
                refine Kw.WX_off rfl rfl rfl rfl (fun _ _ _ h => h) hS ?_
                refine Kw.WX_off rfl rfl rfl rfl (fun _ _ _ h => h) hS ?_
                refine Kw.WX_off rfl rfl rfl rfl (fun _ _ _ h => h) hS ?_
                refine Kw.WX_off rfl rfl rfl rfl (fun _ _ _ h => h) hS ?_
                refine Kw.WX_take rfl rfl rfl rfl (fun _ _ _ h => h) hS (fun _ ⟨A_g3, A_g14, _⟩ => Kw.R_pickt rfl rfl) ?_
                refine Kw.WX_take rfl rfl rfl rfl (fun _ _ _ h => h) hS (fun _ ⟨A_g3, A_g14, _⟩ => Kw.R_eqb rfl rfl Tryd.underlying4 rfl) ?_
                refine Kw.WX_take rfl rfl rfl rfl (fun _ _ _ h => h) hS (fun _ ⟨A_g3, A_g14, _⟩ => Kw.R_pickt rfl rfl) ?_
                refine Kw.WX_take rfl rfl rfl rfl (fun _ _ _ h => h) hS (fun _ ⟨A_g3, A_g14, _⟩ => Kw.R_move rfl) ?_
                refine Kw.WX_callc rfl rfl rfl rfl rfl F.cl10 rfl (Ha _ HB) ?_; intro w73 bw73
                clear hS
                replace A_g3 := A_g3.call bw73
                replace A_g5 := A_g5.call bw73
                replace A_g8 := A_g8.call bw73
                replace A_g10 := A_g10.call bw73
                replace A_g72 := A_g72.call bw73
                replace A_g14 := A_g14.call bw73
                replace HB := Kw.Below.then HB (Nat.le_refl _) bw73
                have hS : Kw.At w73 g3 (cells8 h) 24 ∧ Kw.At w73 g14 (cells8 c) 24 ∧ True := ⟨A_g3, A_g14, trivial⟩
                clear bw73
                refine ⟨hS, ?_⟩
                refine Kw.WX_take rfl rfl rfl rfl (fun _ _ _ h => h) hS (fun _ ⟨A_g3, A_g14, _⟩ => Kw.R_pickt rfl rfl) ?_
                refine Kw.WX_take rfl rfl rfl rfl (fun _ _ _ h => h) hS (fun _ ⟨A_g3, A_g14, _⟩ => Kw.R_assign rfl) ?_
                refine Kw.WX_nil ?_
                clear hS
                refine hK67 _ _ ?_; clear hK67 K67
                refine Kw.WC_sub (l' := [(6, .bool true)]) (Kw.Sub.cons rfl Kw.Sub.nil) ?_
                refine Kw.WC_ret ?_
                exact Kw.post_ret1 rfl rfl ⟨rfl, HB⟩
            ·
              refine Kw.WL_v rfl rfl rfl (Kw.R_leq (z := false) rfl rfl (decide_eq_false c66)) ?_
              refine Kw.WL_v rfl rfl rfl (Kw.R_pickt rfl rfl) ?_
              exfalso; first | exact digit_not_lo hdig (by assumption) | exact digit_not_mid hdig (by assumption) (by assumption) | exact digit_not_hi hdig (by assumption) | exact digit_is_num hdig (by assumption) (by assumption) | exact digit_is_let hdig (by assumption) (by assumption)
          ·
            refine Kw.WL_v rfl rfl rfl (Kw.R_geq (z := false) rfl rfl (decide_eq_false c65)) ?_
            refine Kw.WL_v rfl rfl rfl (Kw.R_move rfl) ?_
            refine Kw.WL_off rfl rfl rfl ?_
            refine Kw.WL_off rfl rfl rfl ?_
            refine Kw.WL_off rfl rfl rfl ?_
            refine Kw.WL_v rfl rfl rfl (Kw.R_pickf rfl rfl) ?_
            exfalso; first | exact digit_not_lo hdig (by assumption) | exact digit_not_mid hdig (by assumption) (by assumption) | exact digit_not_hi hdig (by assumption) | exact digit_is_num hdig (by assumption) (by assumption) | exact digit_is_let hdig (by assumption) (by assumption)
      ·
        refine Kw.WL_v rfl rfl rfl (Kw.R_geq (z := false) rfl rfl (decide_eq_false c56)) ?_
        refine Kw.WL_v rfl rfl rfl (Kw.R_move rfl) ?_
        refine Kw.WL_off rfl rfl rfl ?_
        refine Kw.WL_off rfl rfl rfl ?_
        refine Kw.WL_off rfl rfl rfl ?_
        refine Kw.WL_v rfl rfl rfl (Kw.R_pickf rfl rfl) ?_
        refine Kw.WL_v rfl rfl rfl (Kw.R_move rfl) ?_
        refine Kw.WL_v rfl rfl rfl (Kw.R_indexAddrA (i := 1) (o' := 1) rfl rfl Tryd.underlying31 F.sz5 (by decide) (rfl)) ?_
        refine Kw.WL_v rfl rfl rfl (Kw.R_load1 rfl Tryd.underlying5 rfl A_g5 rfl) ?_
        by_cases c74 : (97 : Int) ≤ a1
        ·
          refine Kw.WL_v rfl rfl rfl (Kw.R_geq (z := true) rfl rfl (decide_eq_true c74)) ?_
          refine Kw.WL_v rfl rfl rfl (Kw.R_move rfl) ?_
          refine Kw.WL_v rfl rfl rfl (Kw.R_indexAddrA (i := 1) (o' := 1) rfl rfl Tryd.underlying31 F.sz5 (by decide) (rfl)) ?_
          refine Kw.WL_v rfl rfl rfl (Kw.R_load1 rfl Tryd.underlying5 rfl A_g5 rfl) ?_
          by_cases c75 : (a1 : Int) ≤ 102
          ·
            refine Kw.WL_v rfl rfl rfl (Kw.R_leq (z := true) rfl rfl (decide_eq_true c75)) ?_
            refine Kw.WL_v rfl rfl rfl (Kw.R_pickt rfl rfl) ?_
            refine Kw.WL_v rfl rfl rfl (Kw.R_pickf rfl rfl) ?_
            refine Kw.WL_v rfl rfl rfl (Kw.R_assign rfl) ?_
            refine Kw.WL_nil ?_
            refine hK55 _ _ ?_; clear hK55 K55
            refine Kw.WC_sub (l' := [(3, .pointer (some ⟨g3, 0, none⟩)), (7, .string (hexS h)), (13, .string (putU (hexS h) k a1)), (14, .pointer (some ⟨g14, 0, none⟩)), (15, .bool true), (16, .bool true)]) (Kw.Sub.cons rfl (Kw.Sub.cons rfl (Kw.Sub.cons rfl (Kw.Sub.cons rfl (Kw.Sub.cons rfl (Kw.Sub.cons rfl Kw.Sub.nil)))))) ?_
            refine Kw.WC_seq (fun K76 hK76 => ?_)
            refine Kw.WC_sched (fun ww => Kw.At ww g3 (cells8 h) 24 ∧ Kw.At ww g14 (cells8 c) 24 ∧ True) [(0, true), (1, true), (2, true), (3, true), (4, true), (5, true), (6, true), (7, true), (8, true), (9, true), (10, true), (11, true), (12, true), (13, true), (14, true), (15, true), (16, true), (17, true), (18, true), (19, true), (20, true), (21, true), (22, true), (23, true), (24, true), (25, false), (26, true), (27, true)] [some 103, some 104, some 105, some 106, some 107, some 108, some 109, some 110, some 111, some 112, some 113, some 114, some 115, some 116, some 117, some 118, some 119, some 120, some 121, some 122, some 123, some 124, some 125, some 126, some 127, some 128, some 129, some 6] rfl (by kernel_rfl) rfl (by kernel_rfl) ?_
            obtain ⟨w77, hww77⟩ : ∃ x : World, x = Go.World.drew w54 := ⟨_, rfl⟩
            rw [← hww77]
            replace A_g3 : Kw.At w77 g3 (cells8 h) 24 := by rw [hww77]; exact A_g3
            replace A_g5 : Kw.At w77 g5 #[.int .u8 a0, .int .u8 a1] 31 := by rw [hww77]; exact A_g5
            replace A_g8 : Kw.At w77 g8 (cells8 h) 24 := by rw [hww77]; exact A_g8
            replace A_g10 : Kw.At w77 g10 (cells8 zeros32) 24 := by rw [hww77]; exact A_g10
            replace A_g72 : Kw.At w77 g72 #[.int .u8 a1] 5 := by rw [hww77]; exact A_g72
            replace A_g14 : Kw.At w77 g14 (cells8 c) 24 := by rw [hww77]; exact A_g14
            replace HB : Below w.heap.size w w77 := by rw [hww77]; exact HB.drew
            clear hww77
            have hS : Kw.At w77 g3 (cells8 h) 24 ∧ Kw.At w77 g14 (cells8 c) 24 ∧ True := ⟨A_g3, A_g14, trivial⟩
            refine Kw.WX_take rfl rfl rfl rfl (fun _ _ _ h => h) hS (fun _ ⟨A_g3, A_g14, _⟩ => Kw.R_move rfl) ?_
            refine Kw.WX_take rfl rfl rfl rfl (fun _ _ _ h => h) hS (fun _ ⟨A_g3, A_g14, _⟩ => Kw.R_move rfl) ?_
            refine Kw.WX_take rfl rfl rfl rfl (fun _ _ _ h => h) hS (fun _ ⟨A_g3, A_g14, _⟩ => Kw.R_eqb rfl rfl Tryd.underlying4 rfl) ?_
            refine Kw.WX_take rfl rfl rfl rfl (fun _ _ _ h => h) hS (fun _ ⟨A_g3, A_g14, _⟩ => Kw.R_move rfl) ?_
            refine Kw.WX_take rfl rfl rfl rfl (fun _ _ _ h => h) hS (fun _ ⟨A_g3, A_g14, _⟩ => Kw.R_loadW rfl Tryd.underlying24 rfl (by rw [cells8_size]; first | (rw [hl]; exact F.sz24) | (rw [parse_length]; exact F.sz24) | (rw [lb]; exact F.sz24) | (rw [lc]; exact F.sz24) | exact F.sz24) A_g14) ?_
            refine Kw.WX_take rfl rfl rfl rfl (fun _ _ _ h => h) hS (fun _ ⟨A_g3, A_g14, _⟩ => Kw.R_loadW rfl Tryd.underlying24 rfl (by rw [cells8_size]; first | (rw [hl]; exact F.sz24) | (rw [parse_length]; exact F.sz24) | (rw [lb]; exact F.sz24) | (rw [lc]; exact F.sz24) | exact F.sz24) A_g3) ?_
            refine Kw.WX_take rfl rfl rfl rfl (fun _ _ _ h => h) hS (fun _ ⟨A_g3, A_g14, _⟩ => R_eqh rfl rfl lc hl bc hn hz) ?_
            refine Kw.WX_take rfl rfl rfl rfl (fun _ _ _ h => h) hS (fun _ ⟨A_g3, A_g14, _⟩ => Kw.R_move rfl) ?_
            refine Kw.WX_take rfl rfl rfl rfl (fun _ _ _ h => h) hS (fun _ ⟨A_g3, A_g14, _⟩ => Kw.R_move rfl) ?_
            refine Kw.WX_take rfl rfl rfl rfl (fun _ _ _ h => h) hS (fun _ ⟨A_g3, A_g14, _⟩ => Kw.R_move rfl) ?_
            refine Kw.WX_take rfl rfl rfl rfl (fun _ _ _ h => h) hS (fun _ ⟨A_g3, A_g14, _⟩ => Kw.R_move rfl) ?_
            refine Kw.WX_take rfl rfl rfl rfl (fun _ _ _ h => h) hS (fun _ ⟨A_g3, A_g14, _⟩ => Kw.R_eqs rfl rfl ((decide_eq_decide.2 hcu).trans hz)) ?_
            refine Kw.WX_take rfl rfl rfl rfl (fun _ _ _ h => h) hS (fun _ ⟨A_g3, A_g14, _⟩ => Kw.R_pickt rfl rfl) ?_
            cases z
            ·
              refine Kw.WX_take rfl rfl rfl rfl (fun _ _ _ h => h) hS (fun _ ⟨A_g3, A_g14, _⟩ => Kw.R_move rfl) ?_
              refine Kw.WX_take rfl rfl rfl rfl (fun _ _ _ h => h) hS (fun _ ⟨A_g3, A_g14, _⟩ => Kw.R_move rfl) ?_
              refine Kw.WX_take rfl rfl rfl rfl (fun _ _ _ h => h) hS (fun _ ⟨A_g3, A_g14, _⟩ => Kw.R_not rfl rfl) ?_
              refine Kw.WX_take rfl rfl rfl rfl (fun _ _ _ h => h) hS (fun _ ⟨A_g3, A_g14, _⟩ => Kw.R_move rfl) ?_
              refine Kw.WX_off rfl rfl rfl rfl (fun _ _ _ h => h) hS ?_
              refine Kw.WX_off rfl rfl rfl rfl (fun _ _ _ h => h) hS ?_
              refine Kw.WX_off rfl rfl rfl rfl (fun _ _ _ h => h) hS ?_
              refine Kw.WX_take rfl rfl rfl rfl (fun _ _ _ h => h) hS (fun _ ⟨A_g3, A_g14, _⟩ => Kw.R_pickf rfl rfl) ?_
              refine Kw.WX_take rfl rfl rfl rfl (fun _ _ _ h => h) hS (fun _ ⟨A_g3, A_g14, _⟩ => Kw.R_pickf rfl rfl) ?_
              refine Kw.WX_take rfl rfl rfl rfl (fun _ _ _ h => h) hS (fun _ ⟨A_g3, A_g14, _⟩ => Kw.R_eqb rfl rfl Tryd.underlying4 rfl) ?_
              refine Kw.WX_take rfl rfl rfl rfl (fun _ _ _ h => h) hS (fun _ ⟨A_g3, A_g14, _⟩ => Kw.R_pickt rfl rfl) ?_
              refine Kw.WX_take rfl rfl rfl rfl (fun _ _ _ h => h) hS (fun _ ⟨A_g3, A_g14, _⟩ => Kw.R_move rfl) ?_
              refine Kw.WX_callc rfl rfl rfl rfl rfl F.cl10 rfl (Ha _ HB) ?_; intro w80 bw80
              clear hS
              replace A_g3 := A_g3.call bw80
              replace A_g5 := A_g5.call bw80
              replace A_g8 := A_g8.call bw80
              replace A_g10 := A_g10.call bw80
              replace A_g72 := A_g72.call bw80
              replace A_g14 := A_g14.call bw80
              replace HB := Kw.Below.then HB (Nat.le_refl _) bw80
              have hS : Kw.At w80 g3 (cells8 h) 24 ∧ Kw.At w80 g14 (cells8 c) 24 ∧ True := ⟨A_g3, A_g14, trivial⟩
              clear bw80
              refine ⟨hS, ?_⟩
              refine Kw.WX_take rfl rfl rfl rfl (fun _ _ _ h => h) hS (fun _ ⟨A_g3, A_g14, _⟩ => Kw.R_pickt rfl rfl) ?_
              refine Kw.WX_take rfl rfl rfl rfl (fun _ _ _ h => h) hS (fun _ ⟨A_g3, A_g14, _⟩ => Kw.R_assign rfl) ?_
              refine Kw.WX_nil ?_
              clear hS
              refine hK76 _ _ ?_; clear hK76 K76
              refine Kw.WC_sub (l' := [(6, .bool true)]) (Kw.Sub.cons rfl Kw.Sub.nil) ?_
              refine Kw.WC_ret ?_
              exact Kw.post_ret1 rfl rfl ⟨rfl, HB⟩
            ·
              refine Kw.WX_take rfl rfl rfl rfl (fun _ _ _ h => h) hS (fun _ ⟨A_g3, A_g14, _⟩ => Kw.R_move rfl) ?_
              refine Kw.WX_off rfl rfl rfl rfl (fun _ _ _ h => h) hS ?_
              refine Kw.WX_off rfl rfl rfl rfl (fun _ _ _ h => h) hS ?_
              refine Kw.WX_off rfl rfl rfl rfl (fun _ _ _ h => h) hS ?_
              refine Kw.WX_off rfl rfl rfl rfl (fun _ _ _ h => h) hS ?_
              refine Kw.WX_off rfl rfl rfl rfl (fun _ _ _ h => h) hS ?_
              refine Kw.WX_off rfl rfl rfl rfl (fun _ _ _ h => h) hS ?_
              refine Kw.WX_off rfl rfl rfl rfl (fun _ _ _ h => h) hS ?_
              refine Kw.WX_take rfl rfl rfl rfl (fun _ _ _ h => h) hS (fun _ ⟨A_g3, A_g14, _⟩ => Kw.R_pickt rfl rfl) ?_
              refine Kw.WX_take rfl rfl rfl rfl (fun _ _ _ h => h) hS (fun _ ⟨A_g3, A_g14, _⟩ => Kw.R_eqb rfl rfl Tryd.underlying4 rfl) ?_
              refine Kw.WX_take rfl rfl rfl rfl (fun _ _ _ h => h) hS (fun _ ⟨A_g3, A_g14, _⟩ => Kw.R_pickt rfl rfl) ?_
              refine Kw.WX_take rfl rfl rfl rfl (fun _ _ _ h => h) hS (fun _ ⟨A_g3, A_g14, _⟩ => Kw.R_move rfl) ?_
              refine Kw.WX_callc rfl rfl rfl rfl rfl F.cl10 rfl (Ha _ HB) ?_; intro w82 bw82
              clear hS
              replace A_g3 := A_g3.call bw82
              replace A_g5 := A_g5.call bw82
              replace A_g8 := A_g8.call bw82
              replace A_g10 := A_g10.call bw82
              replace A_g72 := A_g72.call bw82
              replace A_g14 := A_g14.call bw82
              replace HB := Kw.Below.then HB (Nat.le_refl _) bw82
              have hS : Kw.At w82 g3 (cells8 h) 24 ∧ Kw.At w82 g14 (cells8 c) 24 ∧ True := ⟨A_g3, A_g14, trivial⟩
              clear bw82
              refine ⟨hS, ?_⟩
              refine Kw.WX_take rfl rfl rfl rfl (fun _ _ _ h => h) hS (fun _ ⟨A_g3, A_g14, _⟩ => Kw.R_pickt rfl rfl) ?_
              refine Kw.WX_take rfl rfl rfl rfl (fun _ _ _ h => h) hS (fun _ ⟨A_g3, A_g14, _⟩ => Kw.R_assign rfl) ?_
              refine Kw.WX_nil ?_
              clear hS
              refine hK76 _ _ ?_; clear hK76 K76
              refine Kw.WC_sub (l' := [(6, .bool true)]) (Kw.Sub.cons rfl Kw.Sub.nil) ?_
              refine Kw.WC_ret ?_
              exact Kw.post_ret1 rfl rfl ⟨rfl, HB⟩
          ·
            refine Kw.WL_v rfl rfl rfl (Kw.R_leq (z := false) rfl rfl (decide_eq_false c75)) ?_
            refine Kw.WL_v rfl rfl rfl (Kw.R_pickt rfl rfl) ?_
            exfalso; first | exact digit_not_lo hdig (by assumption) | exact digit_not_mid hdig (by assumption) (by assumption) | exact digit_not_hi hdig (by assumption) | exact digit_is_num hdig (by assumption) (by assumption) | exact digit_is_let hdig (by assumption) (by assumption)
        ·
          refine Kw.WL_v rfl rfl rfl (Kw.R_geq (z := false) rfl rfl (decide_eq_false c74)) ?_
          refine Kw.WL_v rfl rfl rfl (Kw.R_move rfl) ?_
          refine Kw.WL_off rfl rfl rfl ?_
          refine Kw.WL_off rfl rfl rfl ?_
          refine Kw.WL_off rfl rfl rfl ?_
          refine Kw.WL_v rfl rfl rfl (Kw.R_pickf rfl rfl) ?_
          exfalso; first | exact digit_not_lo hdig (by assumption) | exact digit_not_mid hdig (by assumption) (by assumption) | exact digit_not_hi hdig (by assumption) | exact digit_is_num hdig (by assumption) (by assumption) | exact digit_is_let hdig (by assumption) (by assumption)

theorem ShaBack_c (h : List Int) (hl : h.length = 32) (hn : Bytes h) (s : ByteArray) (p : List Int) (lp : p.length = 2) (bp : Bytes p) (w : World) (h0 : Tab w 0 H8) (h1 : Tab w 1 K64) :
    Calls Tryd.prog 5 #[.agg (cells8 h), .string s, .agg (cells8 p)] w fun e w' => e = .returned (.bool true) ∧ Below w.heap.size w w' := by
  obtain ⟨a0, a1, rfl⟩ : ∃ a0 a1, p = [a0, a1] := by
    match p, lp with
    | [a0, a1], _ => exact ⟨a0, a1, rfl⟩
  have r0 := bp a0 (by simp)
  have r1 := bp a1 (by simp)
  cases his : parseV s with
  | none => exact ShaBack_Z h hl hn s his a0 a1 r0 r1 w h0 h1
  | some b => exact ShaBack_S h hl hn s b his a0 a1 r0 r1 w h0 h1
end Go.Proofs.YtngkedoaijlnlaaDoor.Fn
