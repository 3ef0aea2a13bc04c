/- The reference of layer 2: Sum as a contract. -/
import Derived.Test.YtngkedoaijlnlaaDoorPad
namespace Go.Proofs.YtngkedoaijlnlaaDoor.Fn
open Go Go.Proofs Go.RowKit Go.Proofs.YtngkedoaijlnlaaDoorW.PrintWords Go.Proofs.YtngkedoaijlnlaaDoorW.PrintLast Go.Proofs.YtngkedoaijlnlaaDoorW.PrintMore
set_option linter.unusedVariables false
set_option linter.unusedSimpArgs false
theorem shl24 (x : Int) (h : 0 ≤ x ∧ x ≤ 255) : IntKind.u32.wrap (x * 2 ^ min (24 : Int).toNat IntKind.u32.bits) = x * 16777216 := by
  rw [Kw.wrap_u32, show (2 : Int) ^ min (24 : Int).toNat IntKind.u32.bits = 16777216 from by decide]; omega
theorem shl16 (x : Int) (h : 0 ≤ x ∧ x ≤ 255) : IntKind.u32.wrap (x * 2 ^ min (16 : Int).toNat IntKind.u32.bits) = x * 65536 := by
  rw [Kw.wrap_u32, show (2 : Int) ^ min (16 : Int).toNat IntKind.u32.bits = 65536 from by decide]; omega
theorem shl8 (x : Int) (h : 0 ≤ x ∧ x ≤ 255) : IntKind.u32.wrap (x * 2 ^ min (8 : Int).toNat IntKind.u32.bits) = x * 256 := by
  rw [Kw.wrap_u32, show (2 : Int) ^ min (8 : Int).toNat IntKind.u32.bits = 256 from by decide]; omega
theorem shr3 (x : Int) : x.fdiv (2 ^ min (3 : Int).toNat IntKind.u32.bits) = x / 8 := by
  rw [show (2 : Int) ^ min (3 : Int).toNat IntKind.u32.bits = 8 from by decide, Int.fdiv_eq_ediv_of_nonneg _ (by decide)]
theorem shr10 (x : Int) : x.fdiv (2 ^ min (10 : Int).toNat IntKind.u32.bits) = x / 1024 := by
  rw [show (2 : Int) ^ min (10 : Int).toNat IntKind.u32.bits = 1024 from by decide, Int.fdiv_eq_ediv_of_nonneg _ (by decide)]
theorem cells_app (l r : List Int) (k : Nat) (h : k < l.length) : (cells (l ++ r))[k]? = some (.int .u32 (l.getD k 0)) := by
  rw [cells_get _ _ (by rw [List.length_append]; omega), List.getD_eq_getElem?_getD, List.getD_eq_getElem?_getD, List.getElem?_append_left h]
theorem fill_next (blk : ByteArray) (W0 : List Int) (hW : W0.length = 64) (i : Nat) (hi : i < 64) (x : Int) (hx : x = nextW blk (spreadL blk i)) :
    (cells (spreadL blk i ++ W0.drop i)).setIfInBounds i (.int .u32 x) = cells (spreadL blk (i + 1) ++ W0.drop (i + 1)) := by
  have hl := spreadL_length blk i
  rw [cells_set, List.set_append, if_neg (by omega), hl, Nat.sub_self, List.drop_eq_getElem_cons (by omega), List.set_cons_zero, spreadL, ← hx]
  simp
theorem fill_size (blk : ByteArray) (W0 : List Int) (hW : W0.length = 64) (i : Nat) (hi : i ≤ 64) : (cells (spreadL blk i ++ W0.drop i)).size = 64 := by
  rw [cells_size, List.length_append, spreadL_length, List.length_drop]; omega
theorem next_word (T blk : ByteArray) (B : Nat) (hb : blk = T.extract (64 * B) (64 * B + 64)) (hT : 64 * B + 64 ≤ T.size) (i : Nat) (hi : i < 16) :
    nextW blk (spreadL blk i) = word (bt T ((64 * B + 4 * i : Nat) : Int)) (bt T ((64 * B + 4 * i + 1 : Nat) : Int)) (bt T ((64 * B + 4 * i + 2 : Nat) : Int)) (bt T ((64 * B + 4 * i + 3 : Nat) : Int)) := by
  unfold nextW
  rw [spreadL_length, if_pos hi, hb]
  have e : ∀ c : Nat, c < 4 → bt (T.extract (64 * B) (64 * B + 64)) ((4 * i + c : Nat) : Int) = bt T ((64 * B + 4 * i + c : Nat) : Int) := fun c hc => by
    rw [bt_extract T (64 * B) (64 * B + 64) (4 * i + c) (by omega) hT, show 64 * B + (4 * i + c) = 64 * B + 4 * i + c by omega]
  have e0 := e 0 (by omega)
  simp only [Nat.add_zero] at e0
  rw [show ((4 * i : Nat) : Int) = 4 * (i : Int) by omega] at e0
  have e1 := e 1 (by omega)
  rw [show ((4 * i + 1 : Nat) : Int) = 4 * (i : Int) + 1 by omega] at e1
  have e2 := e 2 (by omega)
  rw [show ((4 * i + 2 : Nat) : Int) = 4 * (i : Int) + 2 by omega] at e2
  have e3 := e 3 (by omega)
  rw [show ((4 * i + 3 : Nat) : Int) = 4 * (i : Int) + 3 by omega] at e3
  rw [← e0, ← e1, ← e2, ← e3]
theorem next_late (blk : ByteArray) (i : Nat) (hi : ¬ i < 16) : nextW blk (spreadL blk i) = ((spreadL blk i).getD (i - 16) 0 + (spreadL blk i).getD (i - 7) 0 + s0 ((spreadL blk i).getD (i - 15) 0) + s1 ((spreadL blk i).getD (i - 2) 0)) % 4294967296 := by
  unfold nextW
  rw [spreadL_length, if_neg hi]
theorem spread_num (blk : ByteArray) (i j : Nat) : 0 ≤ (spreadL blk i).getD j 0 ∧ (spreadL blk i).getD j 0 < 4294967296 := getD_range _ (spreadL_range blk i) j
theorem nums_at {l : List Int} (h : Nums l) (i : Nat) : 0 ≤ l.getD i 0 ∧ l.getD i 0 < 4294967296 := getD_range l h i
theorem round_next (K W V : List Int) (k : Nat) (a b c d e f g h t u d' a' : Int) (hR : roundsL K W V k = [a, b, c, d, e, f, g, h])
    (ht : t = (h + xr (xr (rotr e 6) (rotr e 11)) (rotr e 25) + xr (an e f) (an (xr IntKind.u32.max e) g) + K.getD k 0 + W.getD k 0) % 4294967296)
    (hu : u = (xr (xr (rotr a 2) (rotr a 13)) (rotr a 22) + xr (xr (an a b) (an a c)) (an b c)) % 4294967296)
    (hd : d' = (d + t) % 4294967296) (ha : a' = (t + u) % 4294967296) : roundsL K W V (k + 1) = [a', a, b, c, d', e, f, g] := by
  rw [roundsL, hR]
  subst ht hu hd ha
  rfl
theorem mix_next (K : List Int) (T blk : ByteArray) (H : List Int) (B : Nat) (hb : blk = T.extract (64 * B) (64 * B + 64)) (a b c d e f g h ra rb rc rd re rf rg rh : Int) (hV : blocksL K T H B = [a, b, c, d, e, f, g, h])
    (hR : roundsL K (spreadL blk 64) (blocksL K T H B) 64 = [ra, rb, rc, rd, re, rf, rg, rh]) :
    blocksL K T H (B + 1) = [(a + ra) % 4294967296, (b + rb) % 4294967296, (c + rc) % 4294967296, (d + rd) % 4294967296, (e + re) % 4294967296, (f + rf) % 4294967296, (g + rg) % 4294967296, (h + rh) % 4294967296] := by
  rw [blocksL, mixL, ← hb, hR, hV]
  simp only [addL, List.getD_cons_zero, List.getD_cons_succ, List.set_cons_zero, List.set_cons_succ]
  rw [Int.add_comm a, Int.add_comm b, Int.add_comm c, Int.add_comm d, Int.add_comm e, Int.add_comm f, Int.add_comm g, Int.add_comm h]
theorem outL_get (V : List Int) : ∀ (k q r : Nat), q < k → r < 4 → (outL V k)[4 * q + r]? = some (V.getD q 0 / 256 ^ (3 - r) % 256)
  | 0, q, r, h, _ => by omega
  | k + 1, q, r, h, hr => by
    have hl := outL_length V k
    rw [outL]
    by_cases e : q = k
    · subst e
      rw [List.getElem?_append_right (by omega), hl, show 4 * q + r - 4 * q = r by omega, be_get 4 _ r hr]
    · rw [List.getElem?_append_left (by omega)]
      exact outL_get V k q r (by omega) hr
def outB (V : List Int) (i : Nat) : List Int := (outL V 8).take i ++ List.replicate (32 - i) 0
theorem outB_size (V : List Int) (i : Nat) (h : i ≤ 32) : (outB V i).length = 32 := by
  unfold outB
  rw [List.length_append, List.length_take, outL_length, List.length_replicate]; omega
theorem outB_next (V : List Int) (i : Nat) (h : i < 32) (x : Int) (hx : x = V.getD (i / 4) 0 / 256 ^ (3 - i % 4) % 256) : (cells8 (outB V i)).setIfInBounds i (.int .u8 x) = cells8 (outB V (i + 1)) := by
  have hl := outL_length V 8
  have hg := outL_get V 8 (i / 4) (i % 4) (by omega) (by omega)
  rw [show 4 * (i / 4) + i % 4 = i by omega] at hg
  rw [cells8_set]
  congr 1
  unfold outB
  rw [List.set_append, if_neg (by rw [List.length_take]; omega), List.length_take, show i - min i (outL V 8).length = 0 by omega,
    show 32 - i = (32 - (i + 1)) + 1 by omega, List.replicate_succ, List.set_cons_zero, List.take_add_one, hg, ← hx]
  simp
theorem outB_zero (V : List Int) : outB V 0 = zeros32 := by unfold outB zeros32; rfl
theorem outB_all (V : List Int) : outB V 32 = outL V 8 := by
  unfold outB
  rw [List.take_of_length_le (by rw [outL_length]; omega)]; simp
theorem shr_out (x a : Int) (i : Nat) (ha : a = 24 - 8 * ((i % 4 : Nat) : Int)) : x.fdiv (2 ^ min a.toNat IntKind.u32.bits) = x / 256 ^ (3 - i % 4) := by
  have e : min a.toNat IntKind.u32.bits = 8 * (3 - i % 4) := by
    have : IntKind.u32.bits = 32 := rfl
    omega
  rw [e, Int.pow_mul, Int.fdiv_eq_ediv_of_nonneg _ (Int.le_of_lt (Int.pow_pos (by decide)))]
  rfl

set_option maxRecDepth 100000 in
set_option maxHeartbeats 4000000 in
theorem refSum_c (s : ByteArray) (hs : s.size ≤ 1000000) (w : World) : Calls Tryd.prog 12 #[.string s] w fun e w' => e = .returned (.agg (cells8 (sumV K64 H8 s))) ∧ Below w.heap.size w w' := by
  have HB : Below w.heap.size w w := Below.refl _ _
  have hT := fillS_size s
  have hn : blockN s ≤ 20000 := by unfold blockN zerosOf; omega
  have hpos : 0 < blockN s := by unfold blockN zerosOf; omega
  have h8 : H8.length = 8 := rfl
  have h8n : Nums H8 := by unfold Nums; decide +kernel
  refine Kw.enter Tryd.func12 rfl Tryd.ntmps12 rfl rfl ?_
  refine Kw.WC_seq (fun K1 hK1 => ?_)
  refine Kw.WC_region [some 2] rfl ?_
  refine Kw.WL_alloc rfl rfl F.zr24 ?_; intro g2 w2 N_g2
  have A_g2 : Kw.At w2 g2 F.Z24 24 := N_g2.at_
  have G_g2 := N_g2.ge HB (Nat.le_refl _); replace HB := N_g2.below HB (Nat.le_refl _); clear N_g2
  refine Kw.WL_nil ?_
  refine hK1 _ _ ?_; clear hK1 K1
  refine Kw.WC_seq (fun K3 hK3 => ?_)
  refine Kw.WC_region [some 26, some 3, none] rfl ?_
  refine Kw.WL_v rfl rfl rfl (Kw.R_build (cs := cells K64) rfl (fun w => by kernel_rfl)) ?_
  refine Kw.WL_alloc rfl rfl F.zr56 ?_; intro g3 w4 N_g3
  have L_g2_g3 := N_g3.ne A_g2; replace A_g2 := N_g3.keep A_g2
  have A_g3 : Kw.At w4 g3 F.Z56 56 := N_g3.at_
  have G_g3 := N_g3.ge HB (Nat.le_refl _); replace HB := N_g3.below HB (Nat.le_refl _); clear N_g3
  refine Kw.WL_storeW rfl rfl rfl (by exact F.sz56) A_g3 (by kernel_rfl) (by kernel_rfl) ?_; intro w5 M_g3
  replace A_g2 := M_g3.keep A_g2 (Nat.ne_of_lt L_g2_g3)
  replace A_g3 : Kw.At w5 g3 (cells K64) 56 := M_g3.at_ A_g3
  replace HB := M_g3.below HB G_g3; clear M_g3
  refine Kw.WL_nil ?_
  refine hK3 _ _ ?_; clear hK3 K3
  refine Kw.WC_seq (fun K6 hK6 => ?_)
  refine Kw.WC_region [some 27, some 4, none] rfl ?_
  refine Kw.WL_v rfl rfl rfl (Kw.R_build (cs := cells H8) rfl (fun w => by kernel_rfl)) ?_
  refine Kw.WL_alloc rfl rfl F.zr51 ?_; intro g4 w7 N_g4
  have L_g2_g4 := N_g4.ne A_g2; replace A_g2 := N_g4.keep A_g2
  have L_g3_g4 := N_g4.ne A_g3; replace A_g3 := N_g4.keep A_g3
  have A_g4 : Kw.At w7 g4 F.Z51 51 := N_g4.at_
  have G_g4 := N_g4.ge HB (Nat.le_refl _); replace HB := N_g4.below HB (Nat.le_refl _); clear N_g4
  refine Kw.WL_storeW rfl rfl rfl (by exact F.sz51) A_g4 (by kernel_rfl) (by kernel_rfl) ?_; intro w8 M_g4
  replace A_g2 := M_g4.keep A_g2 (Nat.ne_of_lt L_g2_g4)
  replace A_g3 := M_g4.keep A_g3 (Nat.ne_of_lt L_g3_g4)
  replace A_g4 : Kw.At w8 g4 (cells H8) 51 := M_g4.at_ A_g4
  replace HB := M_g4.below HB G_g4; clear M_g4
  refine Kw.WL_nil ?_
  refine hK6 _ _ ?_; clear hK6 K6
  refine Kw.WC_seq (fun K9 hK9 => ?_)
  refine Kw.WC_region [some 28, some 29, some 5] rfl ?_
  refine Kw.WL_v rfl rfl rfl (Kw.R_move rfl) ?_
  refine Kw.WL_call rfl rfl rfl rfl F.cl27 rfl (pad_c s hs _) ?_; rintro v5 w29 ⟨O5, b29⟩
  obtain ⟨g5, cap5, cur5, rfl, hB5, A_g5, hle5, hs5, ht5⟩ := O5.open (by omega)
  have G_g5 : w.heap.size ≤ g5 := Nat.le_trans HB.size hB5
  have L_g2_g5 : g2 < g5 := Nat.lt_of_lt_of_le A_g2.lt hB5; replace A_g2 := A_g2.call b29
  have L_g3_g5 : g3 < g5 := Nat.lt_of_lt_of_le A_g3.lt hB5; replace A_g3 := A_g3.call b29
  have L_g4_g5 : g4 < g5 := Nat.lt_of_lt_of_le A_g4.lt hB5; replace A_g4 := A_g4.call b29
  replace HB := Kw.Below.then HB (Nat.le_refl _) b29; clear b29 O5 hB5
  refine Kw.WL_v rfl rfl rfl (Kw.R_assign rfl) ?_
  refine Kw.WL_nil ?_
  refine hK9 _ _ ?_; clear hK9 K9
  refine Kw.WC_seq (fun K10 hK10 => ?_)
  refine Kw.WC_region [some 6] rfl ?_
  refine Kw.WL_alloc rfl rfl F.zr56 ?_; intro g6 w11 N_g6
  have L_g2_g6 := N_g6.ne A_g2; replace A_g2 := N_g6.keep A_g2
  have L_g3_g6 := N_g6.ne A_g3; replace A_g3 := N_g6.keep A_g3
  have L_g4_g6 := N_g6.ne A_g4; replace A_g4 := N_g6.keep A_g4
  have L_g5_g6 := N_g6.ne A_g5; replace A_g5 := N_g6.keep A_g5
  have A_g6 : Kw.At w11 g6 F.Z56 56 := N_g6.at_
  have G_g6 := N_g6.ge HB (Nat.le_refl _); replace HB := N_g6.below HB (Nat.le_refl _); clear N_g6
  refine Kw.WL_nil ?_
  refine hK10 _ _ ?_; clear hK10 K10
  refine Kw.WC_seq (fun K12 hK12 => ?_)
  refine Kw.WC_seq (fun K13 hK13 => ?_)
  refine Kw.WC_region [some 7] rfl ?_
  refine Kw.WL_v rfl rfl rfl (Kw.R_assign rfl) ?_
  refine Kw.WL_nil ?_
  refine hK13 _ _ ?_; clear hK13 K13
  refine Kw.WC_block ?_
  replace A_g6 : Kw.At w11 g6 (cells (List.replicate 64 0)) 56 := by rw [show cells (List.replicate 64 0) = F.Z56 by kernel_rfl]; exact A_g6
  refine Kw.WC_loop (ι := Nat × List Int) (fun (q : Nat × List Int) (ww : World) => match q with | ⟨B, W0⟩ => (B ≤ blockN s ∧ W0.length = 64) ∧ Kw.At ww g2 F.Z24 24 ∧ Kw.At ww g3 (cells K64) 56 ∧ Kw.At ww g4 (cells (blocksL K64 (fillS s) H8 B)) 51 ∧ Kw.At ww g5 cur5 5 ∧ Kw.At ww g6 (cells W0) 56 ∧ Below w.heap.size w ww) (fun (q : Nat × List Int) => match q with | ⟨B, W0⟩ => [(2, .pointer (some ⟨g2, 0, none⟩)), (3, .pointer (some ⟨g3, 0, none⟩)), (4, .pointer (some ⟨g4, 0, none⟩)), (5, .slice (some ⟨g5, 0, none⟩) ((fillS s).size) cap5), (6, .pointer (some ⟨g6, 0, none⟩)), (7, .int .i64 ((64 * B : Nat) : Int))]) (fun (q : Nat × List Int) => match q with | ⟨B, W0⟩ => blockN s - B) (0, List.replicate 64 0) ⟨⟨Nat.zero_le _, by simp⟩, A_g2, A_g3, A_g4, A_g5, A_g6, HB⟩ (Kw.Sub.cons rfl (Kw.Sub.cons rfl (Kw.Sub.cons rfl (Kw.Sub.cons rfl (Kw.Sub.cons rfl (Kw.Sub.cons rfl Kw.Sub.nil)))))) ?_
  clear A_g2
  clear A_g3
  clear A_g4
  clear A_g5
  clear A_g6
  clear HB
  rintro ⟨B, W0⟩ w14 ⟨hBW, A_g2, A_g3, A_g4, A_g5, A_g6, HB⟩
  dsimp only at *
  obtain ⟨hB, hW0⟩ := hBW
  obtain ⟨blk, hblk⟩ : ∃ x, x = (fillS s).extract (64 * B) (64 * B + 64) := ⟨_, rfl⟩
  have hV8 := blocksL_length K64 (fillS s) H8 h8 B
  have hVn := blocksL_nums K64 (fillS s) H8 h8 h8n B
  refine Kw.WC_seq (fun K15 hK15 => ?_)
  refine Kw.WC_seq (fun K16 hK16 => ?_)
  refine Kw.WC_region [some 30, some 31, some 32, some 33] rfl ?_
  refine Kw.WL_v rfl rfl rfl (Kw.R_move rfl) ?_
  refine Kw.WL_v rfl rfl rfl (Kw.R_move rfl) ?_
  refine Kw.WL_v rfl rfl rfl (Kw.R_lenl Tryd.underlying32 rfl) ?_
  by_cases c17 : (((64 * B : Nat) : Int) : Int) < ((fillS s).size : Int)
  ·
    refine Kw.WL_v rfl rfl rfl (Kw.R_lss (z := true) rfl rfl (decide_eq_true c17)) ?_
    refine Kw.WL_nil ?_
    refine hK16 _ _ ?_; clear hK16 K16
    refine Kw.WC_true rfl ?_
    refine Kw.WC_skip ?_
    refine hK15 _ _ ?_; clear hK15 K15
    refine Kw.WC_seq (fun K18 hK18 => ?_)
    refine Kw.WC_block ?_
    refine Kw.WC_seq (fun K19 hK19 => ?_)
    refine Kw.WC_seq (fun K20 hK20 => ?_)
    refine Kw.WC_region [some 8] rfl ?_
    refine Kw.WL_v rfl rfl rfl (Kw.R_assign rfl) ?_
    refine Kw.WL_nil ?_
    refine hK20 _ _ ?_; clear hK20 K20
    refine Kw.WC_block ?_
    replace A_g6 : Kw.At w14 g6 (cells (spreadL blk 0 ++ W0.drop 0)) 56 := by simpa [spreadL] using A_g6
    refine Kw.WC_loop (ι := Nat) (fun (i : Nat) (ww : World) => (i ≤ 16) ∧ Kw.At ww g2 F.Z24 24 ∧ Kw.At ww g3 (cells K64) 56 ∧ Kw.At ww g4 (cells (blocksL K64 (fillS s) H8 B)) 51 ∧ Kw.At ww g5 cur5 5 ∧ Kw.At ww g6 (cells (spreadL blk i ++ W0.drop i)) 56 ∧ Below w.heap.size w ww) (fun (i : Nat) => [(2, .pointer (some ⟨g2, 0, none⟩)), (3, .pointer (some ⟨g3, 0, none⟩)), (4, .pointer (some ⟨g4, 0, none⟩)), (5, .slice (some ⟨g5, 0, none⟩) ((fillS s).size) cap5), (6, .pointer (some ⟨g6, 0, none⟩)), (7, .int .i64 ((64 * B : Nat) : Int)), (8, .int .i64 (i : Int))]) (fun (i : Nat) => 16 - i) 0 ⟨by omega, A_g2, A_g3, A_g4, A_g5, A_g6, HB⟩ (Kw.Sub.cons rfl (Kw.Sub.cons rfl (Kw.Sub.cons rfl (Kw.Sub.cons rfl (Kw.Sub.cons rfl (Kw.Sub.cons rfl (Kw.Sub.cons rfl Kw.Sub.nil))))))) ?_
    clear A_g2
    clear A_g3
    clear A_g4
    clear A_g5
    clear A_g6
    clear HB
    rintro i w21 ⟨hi, A_g2, A_g3, A_g4, A_g5, A_g6, HB⟩
    refine Kw.WC_seq (fun K22 hK22 => ?_)
    refine Kw.WC_seq (fun K23 hK23 => ?_)
    refine Kw.WC_region [some 36, some 37] rfl ?_
    refine Kw.WL_v rfl rfl rfl (Kw.R_move rfl) ?_
    by_cases c24 : ((i : Int) : Int) < 16
    ·
      refine Kw.WL_v rfl rfl rfl (Kw.R_lss (z := true) rfl rfl (decide_eq_true c24)) ?_
      refine Kw.WL_nil ?_
      refine hK23 _ _ ?_; clear hK23 K23
      refine Kw.WC_true rfl ?_
      refine Kw.WC_skip ?_
      refine hK22 _ _ ?_; clear hK22 K22
      refine Kw.WC_seq (fun K25 hK25 => ?_)
      refine Kw.WC_block ?_
      refine Kw.WC_seq (fun K26 hK26 => ?_)
      refine Kw.WC_region [some 40, some 41, some 42, some 43, some 9] rfl ?_
      refine Kw.WL_v rfl rfl rfl (Kw.R_move rfl) ?_
      refine Kw.WL_v rfl rfl rfl (Kw.R_move rfl) ?_
      obtain ⟨j42, hj42⟩ : ∃ x : Nat, (x : Int) = 4 * (i : Int) := ⟨(4 * (i : Int)).toNat, by omega⟩
      refine Kw.WL_v rfl rfl rfl (Kw.R_mul (c := (j42 : Int)) rfl rfl (by rw [Kw.wrap_i64 (by omega)]; rw [hj42])) ?_
      obtain ⟨j, hj⟩ : ∃ x : Nat, (x : Int) = ((64 * B : Nat) : Int) + (j42 : Int) := ⟨(((64 * B : Nat) : Int) + (j42 : Int)).toNat, by omega⟩
      refine Kw.WL_v rfl rfl rfl (Kw.R_add (c := (j : Int)) rfl rfl (by rw [Kw.wrap_i64 (by omega)]; rw [hj])) ?_
      refine Kw.WL_v rfl rfl rfl (Kw.R_assign rfl) ?_
      refine Kw.WL_nil ?_
      refine hK26 _ _ ?_; clear hK26 K26
      refine Kw.WC_sub (l' := [(2, .pointer (some ⟨g2, 0, none⟩)), (3, .pointer (some ⟨g3, 0, none⟩)), (4, .pointer (some ⟨g4, 0, none⟩)), (5, .slice (some ⟨g5, 0, none⟩) ((fillS s).size) cap5), (6, .pointer (some ⟨g6, 0, none⟩)), (7, .int .i64 ((64 * B : Nat) : Int)), (8, .int .i64 (i : Int)), (9, .int .i64 (j : Int))]) (Kw.Sub.cons rfl (Kw.Sub.cons rfl (Kw.Sub.cons rfl (Kw.Sub.cons rfl (Kw.Sub.cons rfl (Kw.Sub.cons rfl (Kw.Sub.cons rfl (Kw.Sub.cons rfl Kw.Sub.nil)))))))) ?_
      refine Kw.WC_still 31 [some 44, some 45, some 46, some 47, some 48, some 49, some 50, some 51, some 52, some 53, some 54, some 55, some 56, some 57, some 58, some 59, some 60, some 61, some 62, some 63, some 64, some 65, some 66, some 67, some 68, some 69, some 70, some 71, some 72, some 73, some 74, none] rfl (by kernel_rfl) (by kernel_rfl) ?_
      simp only [List.take_succ_cons, List.take_zero, List.drop_succ_cons, List.drop_zero]
      obtain ⟨w27, hww27⟩ : ∃ x : World, x = Go.World.drew w21 := ⟨_, rfl⟩
      rw [← hww27]
      replace A_g2 : Kw.At w27 g2 F.Z24 24 := by rw [hww27]; exact A_g2
      replace A_g3 : Kw.At w27 g3 (cells K64) 56 := by rw [hww27]; exact A_g3
      replace A_g4 : Kw.At w27 g4 (cells (blocksL K64 (fillS s) H8 B)) 51 := by rw [hww27]; exact A_g4
      replace A_g5 : Kw.At w27 g5 cur5 5 := by rw [hww27]; exact A_g5
      replace A_g6 : Kw.At w27 g6 (cells (spreadL blk i ++ W0.drop i)) 56 := by rw [hww27]; exact A_g6
      replace HB : Below w.heap.size w w27 := by rw [hww27]; exact HB.drew
      clear hww27
      refine Kw.WS_v rfl rfl rfl (Kw.R_move rfl) ?_
      refine Kw.WS_v rfl rfl rfl (Kw.R_move rfl) ?_
      refine Kw.WS_v rfl rfl rfl (Kw.R_move rfl) ?_
      refine Kw.WS_v rfl rfl rfl (Kw.R_indexAddrS (i := j) (o' := j) rfl rfl Tryd.underlying32 F.sz5 (by omega) (by omega)) ?_
      obtain ⟨y0, hy0⟩ : ∃ y, y = bt (fillS s) (j : Int) := ⟨_, rfl⟩
      have ry0 : 0 ≤ y0 ∧ y0 ≤ 255 := by rw [hy0]; exact bt_range _ _
      refine Kw.WS_v rfl rfl rfl (Kw.R_load1 (v := .int .u8 y0) rfl Tryd.underlying5 rfl A_g5 (by rw [hy0]; exact (Kw.Own.cellAt ht5 (by omega)).trans (cellsS_at _ _ (by omega)))) ?_
      refine Kw.WS_v rfl rfl rfl (Kw.R_conv (c := y0) Tryd.underlying5 Tryd.underlying50 rfl (by rw [Kw.wrap_u32]; omega)) ?_
      refine Kw.WS_v rfl rfl rfl (Kw.R_shl (c := y0 * 16777216) rfl rfl (by decide) (shl24 y0 ry0)) ?_
      refine Kw.WS_v rfl rfl rfl (Kw.R_move rfl) ?_
      refine Kw.WS_v rfl rfl rfl (Kw.R_move rfl) ?_
      obtain ⟨j1, hj1⟩ : ∃ x : Nat, (x : Int) = (j : Int) + 1 := ⟨((j : Int) + 1).toNat, by omega⟩
      refine Kw.WS_v rfl rfl rfl (Kw.R_add (c := (j1 : Int)) rfl rfl (by rw [Kw.wrap_i64 (by omega)]; rw [hj1])) ?_
      refine Kw.WS_v rfl rfl rfl (Kw.R_indexAddrS (i := j1) (o' := j1) rfl rfl Tryd.underlying32 F.sz5 (by omega) (by omega)) ?_
      obtain ⟨y1, hy1⟩ : ∃ y, y = bt (fillS s) (j1 : Int) := ⟨_, rfl⟩
      have ry1 : 0 ≤ y1 ∧ y1 ≤ 255 := by rw [hy1]; exact bt_range _ _
      refine Kw.WS_v rfl rfl rfl (Kw.R_load1 (v := .int .u8 y1) rfl Tryd.underlying5 rfl A_g5 (by rw [hy1]; exact (Kw.Own.cellAt ht5 (by omega)).trans (cellsS_at _ _ (by omega)))) ?_
      refine Kw.WS_v rfl rfl rfl (Kw.R_conv (c := y1) Tryd.underlying5 Tryd.underlying50 rfl (by rw [Kw.wrap_u32]; omega)) ?_
      refine Kw.WS_v rfl rfl rfl (Kw.R_shl (c := y1 * 65536) rfl rfl (by decide) (shl16 y1 ry1)) ?_
      obtain ⟨x58, hx58⟩ : ∃ x : Int, x = ((y0 * 16777216) + (y1 * 65536)) % 4294967296 := ⟨_, rfl⟩
      refine Kw.WS_v rfl rfl rfl (Kw.R_add (c := x58) rfl rfl (by rw [Kw.wrap_u32]; rw [hx58])) ?_
      refine Kw.WS_v rfl rfl rfl (Kw.R_move rfl) ?_
      refine Kw.WS_v rfl rfl rfl (Kw.R_move rfl) ?_
      obtain ⟨j2, hj2⟩ : ∃ x : Nat, (x : Int) = (j : Int) + 2 := ⟨((j : Int) + 2).toNat, by omega⟩
      refine Kw.WS_v rfl rfl rfl (Kw.R_add (c := (j2 : Int)) rfl rfl (by rw [Kw.wrap_i64 (by omega)]; rw [hj2])) ?_
      refine Kw.WS_v rfl rfl rfl (Kw.R_indexAddrS (i := j2) (o' := j2) rfl rfl Tryd.underlying32 F.sz5 (by omega) (by omega)) ?_
      obtain ⟨y2, hy2⟩ : ∃ y, y = bt (fillS s) (j2 : Int) := ⟨_, rfl⟩
      have ry2 : 0 ≤ y2 ∧ y2 ≤ 255 := by rw [hy2]; exact bt_range _ _
      refine Kw.WS_v rfl rfl rfl (Kw.R_load1 (v := .int .u8 y2) rfl Tryd.underlying5 rfl A_g5 (by rw [hy2]; exact (Kw.Own.cellAt ht5 (by omega)).trans (cellsS_at _ _ (by omega)))) ?_
      refine Kw.WS_v rfl rfl rfl (Kw.R_conv (c := y2) Tryd.underlying5 Tryd.underlying50 rfl (by rw [Kw.wrap_u32]; omega)) ?_
      refine Kw.WS_v rfl rfl rfl (Kw.R_shl (c := y2 * 256) rfl rfl (by decide) (shl8 y2 ry2)) ?_
      obtain ⟨x66, hx66⟩ : ∃ x : Int, x = (x58 + (y2 * 256)) % 4294967296 := ⟨_, rfl⟩
      refine Kw.WS_v rfl rfl rfl (Kw.R_add (c := x66) rfl rfl (by rw [Kw.wrap_u32]; rw [hx66])) ?_
      refine Kw.WS_v rfl rfl rfl (Kw.R_move rfl) ?_
      refine Kw.WS_v rfl rfl rfl (Kw.R_move rfl) ?_
      obtain ⟨j3, hj3⟩ : ∃ x : Nat, (x : Int) = (j : Int) + 3 := ⟨((j : Int) + 3).toNat, by omega⟩
      refine Kw.WS_v rfl rfl rfl (Kw.R_add (c := (j3 : Int)) rfl rfl (by rw [Kw.wrap_i64 (by omega)]; rw [hj3])) ?_
      refine Kw.WS_v rfl rfl rfl (Kw.R_indexAddrS (i := j3) (o' := j3) rfl rfl Tryd.underlying32 F.sz5 (by omega) (by omega)) ?_
      obtain ⟨y3, hy3⟩ : ∃ y, y = bt (fillS s) (j3 : Int) := ⟨_, rfl⟩
      have ry3 : 0 ≤ y3 ∧ y3 ≤ 255 := by rw [hy3]; exact bt_range _ _
      refine Kw.WS_v rfl rfl rfl (Kw.R_load1 (v := .int .u8 y3) rfl Tryd.underlying5 rfl A_g5 (by rw [hy3]; exact (Kw.Own.cellAt ht5 (by omega)).trans (cellsS_at _ _ (by omega)))) ?_
      refine Kw.WS_v rfl rfl rfl (Kw.R_conv (c := y3) Tryd.underlying5 Tryd.underlying50 rfl (by rw [Kw.wrap_u32]; omega)) ?_
      obtain ⟨x73, hx73⟩ : ∃ x : Int, x = (x66 + y3) % 4294967296 := ⟨_, rfl⟩
      refine Kw.WS_v rfl rfl rfl (Kw.R_add (c := x73) rfl rfl (by rw [Kw.wrap_u32]; rw [hx73])) ?_
      refine Kw.WS_v rfl rfl rfl (Kw.R_indexAddrA (i := i) (o' := i) rfl rfl Tryd.underlying56 F.sz50 (by omega) (by omega)) ?_
      refine Kw.WS_nil ?_
      refine Kw.WL_store1 (ds := cells (spreadL blk (i + 1) ++ W0.drop (i + 1))) rfl rfl rfl F.sz50 A_g6 (by rw [fill_size blk W0 hW0 i (by omega)]; omega) rfl rfl (fill_next blk W0 hW0 i (by omega) _ (by rw [next_word (fillS s) blk B hblk (by omega) i (by omega), show 64 * B + 4 * i = j by omega, ← show j1 = j + 1 by omega, ← show j2 = j + 2 by omega, ← show j3 = j + 3 by omega, ← hy0, ← hy1, ← hy2, ← hy3]; unfold word; omega)) ?_; intro w28 M_g6
      replace A_g2 := M_g6.keep A_g2 (Nat.ne_of_lt L_g2_g6)
      replace A_g3 := M_g6.keep A_g3 (Nat.ne_of_lt L_g3_g6)
      replace A_g4 := M_g6.keep A_g4 (Nat.ne_of_lt L_g4_g6)
      replace A_g5 := M_g6.keep A_g5 (Nat.ne_of_lt L_g5_g6)
      replace A_g6 : Kw.At w28 g6 (cells (spreadL blk (i + 1) ++ W0.drop (i + 1))) 56 := M_g6.at_ A_g6
      replace HB := M_g6.below HB G_g6; clear M_g6
      refine Kw.WL_nil ?_
      refine Kw.QN_block ?_
      refine hK25 _ _ ?_; clear hK25 K25
      refine Kw.WC_sub (l' := [(2, .pointer (some ⟨g2, 0, none⟩)), (3, .pointer (some ⟨g3, 0, none⟩)), (4, .pointer (some ⟨g4, 0, none⟩)), (5, .slice (some ⟨g5, 0, none⟩) ((fillS s).size) cap5), (6, .pointer (some ⟨g6, 0, none⟩)), (7, .int .i64 ((64 * B : Nat) : Int)), (8, .int .i64 (i : Int))]) (Kw.Sub.cons rfl (Kw.Sub.cons rfl (Kw.Sub.cons rfl (Kw.Sub.cons rfl (Kw.Sub.cons rfl (Kw.Sub.cons rfl (Kw.Sub.cons rfl Kw.Sub.nil))))))) ?_
      refine Kw.WC_region [some 38, some 39, some 8] rfl ?_
      refine Kw.WL_v rfl rfl rfl (Kw.R_move rfl) ?_
      refine Kw.WL_v rfl rfl rfl (Kw.R_add (c := ((i + 1 : Nat) : Int)) rfl rfl (by rw [Kw.wrap_i64 (by omega)]; omega)) ?_
      refine Kw.WL_v rfl rfl rfl (Kw.R_assign rfl) ?_
      refine Kw.WL_nil ?_
      refine Kw.QN_round (i + 1) ⟨by omega, A_g2, A_g3, A_g4, A_g5, A_g6, HB⟩ (by omega) (Kw.Sub.cons rfl (Kw.Sub.cons rfl (Kw.Sub.cons rfl (Kw.Sub.cons rfl (Kw.Sub.cons rfl (Kw.Sub.cons rfl (Kw.Sub.cons rfl Kw.Sub.nil)))))))
    ·
      refine Kw.WL_v rfl rfl rfl (Kw.R_lss (z := false) rfl rfl (decide_eq_false c24)) ?_
      refine Kw.WL_nil ?_
      refine hK23 _ _ ?_; clear hK23 K23
      refine Kw.WC_false rfl ?_
      refine Kw.WC_exit ?_
      refine Kw.QE_then ?_; clear hK22 K22
      refine Kw.QE_then ?_
      refine Kw.QE_here ?_
      refine hK19 _ _ ?_; clear hK19 K19
      refine Kw.WC_seq (fun K29 hK29 => ?_)
      refine Kw.WC_seq (fun K30 hK30 => ?_)
      refine Kw.WC_region [some 10] rfl ?_
      obtain rfl : i = 16 := by omega
      refine Kw.WL_v rfl rfl rfl (Kw.R_assign rfl) ?_
      refine Kw.WL_nil ?_
      refine hK30 _ _ ?_; clear hK30 K30
      refine Kw.WC_block ?_
      refine Kw.WC_loop (ι := Nat) (fun (i : Nat) (ww : World) => (16 ≤ i ∧ i ≤ 64) ∧ Kw.At ww g2 F.Z24 24 ∧ Kw.At ww g3 (cells K64) 56 ∧ Kw.At ww g4 (cells (blocksL K64 (fillS s) H8 B)) 51 ∧ Kw.At ww g5 cur5 5 ∧ Kw.At ww g6 (cells (spreadL blk i ++ W0.drop i)) 56 ∧ Below w.heap.size w ww) (fun (i : Nat) => [(2, .pointer (some ⟨g2, 0, none⟩)), (3, .pointer (some ⟨g3, 0, none⟩)), (4, .pointer (some ⟨g4, 0, none⟩)), (5, .slice (some ⟨g5, 0, none⟩) ((fillS s).size) cap5), (6, .pointer (some ⟨g6, 0, none⟩)), (7, .int .i64 ((64 * B : Nat) : Int)), (10, .int .i64 (i : Int))]) (fun (i : Nat) => 64 - i) 16 ⟨by omega, A_g2, A_g3, A_g4, A_g5, A_g6, HB⟩ (Kw.Sub.cons rfl (Kw.Sub.cons rfl (Kw.Sub.cons rfl (Kw.Sub.cons rfl (Kw.Sub.cons rfl (Kw.Sub.cons rfl (Kw.Sub.cons rfl Kw.Sub.nil))))))) ?_
      clear A_g2
      clear A_g3
      clear A_g4
      clear A_g5
      clear A_g6
      clear HB
      rintro i w31 ⟨hi, A_g2, A_g3, A_g4, A_g5, A_g6, HB⟩
      refine Kw.WC_seq (fun K32 hK32 => ?_)
      refine Kw.WC_seq (fun K33 hK33 => ?_)
      refine Kw.WC_region [some 75, some 76] rfl ?_
      refine Kw.WL_v rfl rfl rfl (Kw.R_move rfl) ?_
      by_cases c34 : ((i : Int) : Int) < 64
      ·
        refine Kw.WL_v rfl rfl rfl (Kw.R_lss (z := true) rfl rfl (decide_eq_true c34)) ?_
        refine Kw.WL_nil ?_
        refine hK33 _ _ ?_; clear hK33 K33
        refine Kw.WC_true rfl ?_
        refine Kw.WC_skip ?_
        refine hK32 _ _ ?_; clear hK32 K32
        refine Kw.WC_seq (fun K35 hK35 => ?_)
        refine Kw.WC_block ?_
        refine Kw.WC_seq (fun K36 hK36 => ?_)
        refine Kw.WC_still 9 [some 79, some 80, some 81, some 82, some 83, some 84, some 85, some 86, some 11, some 12] rfl (by kernel_rfl) (by kernel_rfl) ?_
        simp only [List.take_succ_cons, List.take_zero, List.drop_succ_cons, List.drop_zero]
        obtain ⟨w37, hww37⟩ : ∃ x : World, x = Go.World.drew w31 := ⟨_, rfl⟩
        rw [← hww37]
        replace A_g2 : Kw.At w37 g2 F.Z24 24 := by rw [hww37]; exact A_g2
        replace A_g3 : Kw.At w37 g3 (cells K64) 56 := by rw [hww37]; exact A_g3
        replace A_g4 : Kw.At w37 g4 (cells (blocksL K64 (fillS s) H8 B)) 51 := by rw [hww37]; exact A_g4
        replace A_g5 : Kw.At w37 g5 cur5 5 := by rw [hww37]; exact A_g5
        replace A_g6 : Kw.At w37 g6 (cells (spreadL blk i ++ W0.drop i)) 56 := by rw [hww37]; exact A_g6
        replace HB : Below w.heap.size w w37 := by rw [hww37]; exact HB.drew
        clear hww37
        refine Kw.WS_v rfl rfl rfl (Kw.R_move rfl) ?_
        obtain ⟨j80, hj80⟩ : ∃ x : Nat, (x : Int) = (i : Int) - 15 := ⟨((i : Int) - 15).toNat, by omega⟩
        refine Kw.WS_v rfl rfl rfl (Kw.R_sub (c := (j80 : Int)) rfl rfl (by rw [Kw.wrap_i64 (by omega)]; rw [hj80])) ?_
        refine Kw.WS_v rfl rfl rfl (Kw.R_indexAddrA (i := j80) (o' := j80) rfl rfl Tryd.underlying56 F.sz50 (by omega) (by omega)) ?_
        obtain ⟨y82, hy82⟩ : ∃ y, y = (spreadL blk i).getD j80 0 := ⟨_, rfl⟩
        have ry82 : 0 ≤ y82 ∧ y82 < 4294967296 := by rw [hy82]; exact spread_num _ _ _
        refine Kw.WS_v rfl rfl rfl (Kw.R_load1 (v := .int .u32 y82) rfl Tryd.underlying50 rfl A_g6 (by rw [hy82]; exact cells_app _ _ _ (by rw [spreadL_length]; omega))) ?_
        refine Kw.WS_v rfl rfl rfl (Kw.R_move rfl) ?_
        obtain ⟨j84, hj84⟩ : ∃ x : Nat, (x : Int) = (i : Int) - 2 := ⟨((i : Int) - 2).toNat, by omega⟩
        refine Kw.WS_v rfl rfl rfl (Kw.R_sub (c := (j84 : Int)) rfl rfl (by rw [Kw.wrap_i64 (by omega)]; rw [hj84])) ?_
        refine Kw.WS_v rfl rfl rfl (Kw.R_indexAddrA (i := j84) (o' := j84) rfl rfl Tryd.underlying56 F.sz50 (by omega) (by omega)) ?_
        obtain ⟨y86, hy86⟩ : ∃ y, y = (spreadL blk i).getD j84 0 := ⟨_, rfl⟩
        have ry86 : 0 ≤ y86 ∧ y86 < 4294967296 := by rw [hy86]; exact spread_num _ _ _
        refine Kw.WS_v rfl rfl rfl (Kw.R_load1 (v := .int .u32 y86) rfl Tryd.underlying50 rfl A_g6 (by rw [hy86]; exact cells_app _ _ _ (by rw [spreadL_length]; omega))) ?_
        refine Kw.WS_v rfl rfl rfl (Kw.R_assign rfl) ?_
        refine Kw.WS_nil ?_
        refine Kw.WL_v rfl rfl rfl (Kw.R_assign rfl) ?_
        refine Kw.WL_nil ?_
        refine hK36 _ _ ?_; clear hK36 K36
        refine Kw.WC_sub (l' := [(2, .pointer (some ⟨g2, 0, none⟩)), (3, .pointer (some ⟨g3, 0, none⟩)), (4, .pointer (some ⟨g4, 0, none⟩)), (5, .slice (some ⟨g5, 0, none⟩) ((fillS s).size) cap5), (6, .pointer (some ⟨g6, 0, none⟩)), (7, .int .i64 ((64 * B : Nat) : Int)), (10, .int .i64 (i : Int)), (11, .int .u32 y82), (12, .int .u32 y86)]) (Kw.Sub.cons rfl (Kw.Sub.cons rfl (Kw.Sub.cons rfl (Kw.Sub.cons rfl (Kw.Sub.cons rfl (Kw.Sub.cons rfl (Kw.Sub.cons rfl (Kw.Sub.cons rfl (Kw.Sub.cons rfl Kw.Sub.nil))))))))) ?_
        refine Kw.WC_still 29 [some 87, some 88, some 89, some 90, some 91, some 92, some 93, some 94, some 95, some 96, some 97, some 98, some 99, some 100, some 101, some 102, some 103, some 104, some 105, some 106, some 107, some 108, some 109, some 110, some 111, some 112, some 113, some 114, some 115, none] rfl (by kernel_rfl) (by kernel_rfl) ?_
        simp only [List.take_succ_cons, List.take_zero, List.drop_succ_cons, List.drop_zero]
        obtain ⟨w38, hww38⟩ : ∃ x : World, x = Go.World.drew w37 := ⟨_, rfl⟩
        rw [← hww38]
        replace A_g2 : Kw.At w38 g2 F.Z24 24 := by rw [hww38]; exact A_g2
        replace A_g3 : Kw.At w38 g3 (cells K64) 56 := by rw [hww38]; exact A_g3
        replace A_g4 : Kw.At w38 g4 (cells (blocksL K64 (fillS s) H8 B)) 51 := by rw [hww38]; exact A_g4
        replace A_g5 : Kw.At w38 g5 cur5 5 := by rw [hww38]; exact A_g5
        replace A_g6 : Kw.At w38 g6 (cells (spreadL blk i ++ W0.drop i)) 56 := by rw [hww38]; exact A_g6
        replace HB : Below w.heap.size w w38 := by rw [hww38]; exact HB.drew
        clear hww38
        refine Kw.WS_v rfl rfl rfl (Kw.R_move rfl) ?_
        refine Kw.WS_v rfl rfl rfl (Kw.R_move rfl) ?_
        obtain ⟨j89, hj89⟩ : ∃ x : Nat, (x : Int) = (i : Int) - 16 := ⟨((i : Int) - 16).toNat, by omega⟩
        refine Kw.WS_v rfl rfl rfl (Kw.R_sub (c := (j89 : Int)) rfl rfl (by rw [Kw.wrap_i64 (by omega)]; rw [hj89])) ?_
        refine Kw.WS_v rfl rfl rfl (Kw.R_indexAddrA (i := j89) (o' := j89) rfl rfl Tryd.underlying56 F.sz50 (by omega) (by omega)) ?_
        obtain ⟨y91, hy91⟩ : ∃ y, y = (spreadL blk i).getD j89 0 := ⟨_, rfl⟩
        have ry91 : 0 ≤ y91 ∧ y91 < 4294967296 := by rw [hy91]; exact spread_num _ _ _
        refine Kw.WS_v rfl rfl rfl (Kw.R_load1 (v := .int .u32 y91) rfl Tryd.underlying50 rfl A_g6 (by rw [hy91]; exact cells_app _ _ _ (by rw [spreadL_length]; omega))) ?_
        refine Kw.WS_v rfl rfl rfl (Kw.R_move rfl) ?_
        refine Kw.WS_call rfl rfl rfl rfl F.cl28 rfl (turn_c y82 ry82 7 (by decide) (by decide) _) ?_
        refine Kw.WS_v rfl rfl rfl (Kw.R_move rfl) ?_
        refine Kw.WS_call rfl rfl rfl rfl F.cl28 rfl (turn_c y82 ry82 18 (by decide) (by decide) _) ?_
        refine Kw.WS_v rfl rfl rfl (Kw.R_bits (c := (xr (rotr y82 7) (rotr y82 18))) rfl rfl rfl (rfl)) ?_
        refine Kw.WS_v rfl rfl rfl (Kw.R_move rfl) ?_
        refine Kw.WS_v rfl rfl rfl (Kw.R_shr (c := y82 / 8) rfl rfl (by decide) (shr3 _)) ?_
        refine Kw.WS_v rfl rfl rfl (Kw.R_bits (c := (s0 y82)) rfl rfl rfl (rfl)) ?_
        obtain ⟨x100, hx100⟩ : ∃ x : Int, x = (y91 + (s0 y82)) % 4294967296 := ⟨_, rfl⟩
        refine Kw.WS_v rfl rfl rfl (Kw.R_add (c := x100) rfl rfl (by rw [Kw.wrap_u32]; rw [hx100])) ?_
        refine Kw.WS_v rfl rfl rfl (Kw.R_move rfl) ?_
        obtain ⟨j102, hj102⟩ : ∃ x : Nat, (x : Int) = (i : Int) - 7 := ⟨((i : Int) - 7).toNat, by omega⟩
        refine Kw.WS_v rfl rfl rfl (Kw.R_sub (c := (j102 : Int)) rfl rfl (by rw [Kw.wrap_i64 (by omega)]; rw [hj102])) ?_
        refine Kw.WS_v rfl rfl rfl (Kw.R_indexAddrA (i := j102) (o' := j102) rfl rfl Tryd.underlying56 F.sz50 (by omega) (by omega)) ?_
        obtain ⟨y104, hy104⟩ : ∃ y, y = (spreadL blk i).getD j102 0 := ⟨_, rfl⟩
        have ry104 : 0 ≤ y104 ∧ y104 < 4294967296 := by rw [hy104]; exact spread_num _ _ _
        refine Kw.WS_v rfl rfl rfl (Kw.R_load1 (v := .int .u32 y104) rfl Tryd.underlying50 rfl A_g6 (by rw [hy104]; exact cells_app _ _ _ (by rw [spreadL_length]; omega))) ?_
        obtain ⟨x105, hx105⟩ : ∃ x : Int, x = (x100 + y104) % 4294967296 := ⟨_, rfl⟩
        refine Kw.WS_v rfl rfl rfl (Kw.R_add (c := x105) rfl rfl (by rw [Kw.wrap_u32]; rw [hx105])) ?_
        refine Kw.WS_v rfl rfl rfl (Kw.R_move rfl) ?_
        refine Kw.WS_call rfl rfl rfl rfl F.cl28 rfl (turn_c y86 ry86 17 (by decide) (by decide) _) ?_
        refine Kw.WS_v rfl rfl rfl (Kw.R_move rfl) ?_
        refine Kw.WS_call rfl rfl rfl rfl F.cl28 rfl (turn_c y86 ry86 19 (by decide) (by decide) _) ?_
        refine Kw.WS_v rfl rfl rfl (Kw.R_bits (c := (xr (rotr y86 17) (rotr y86 19))) rfl rfl rfl (rfl)) ?_
        refine Kw.WS_v rfl rfl rfl (Kw.R_move rfl) ?_
        refine Kw.WS_v rfl rfl rfl (Kw.R_shr (c := y86 / 1024) rfl rfl (by decide) (shr10 _)) ?_
        refine Kw.WS_v rfl rfl rfl (Kw.R_bits (c := (s1 y86)) rfl rfl rfl (rfl)) ?_
        obtain ⟨x114, hx114⟩ : ∃ x : Int, x = (x105 + (s1 y86)) % 4294967296 := ⟨_, rfl⟩
        refine Kw.WS_v rfl rfl rfl (Kw.R_add (c := x114) rfl rfl (by rw [Kw.wrap_u32]; rw [hx114])) ?_
        refine Kw.WS_v rfl rfl rfl (Kw.R_indexAddrA (i := i) (o' := i) rfl rfl Tryd.underlying56 F.sz50 (by omega) (by omega)) ?_
        refine Kw.WS_nil ?_
        refine Kw.WL_store1 (ds := cells (spreadL blk (i + 1) ++ W0.drop (i + 1))) rfl rfl rfl F.sz50 A_g6 (by rw [fill_size blk W0 hW0 i (by omega)]; omega) rfl rfl (fill_next blk W0 hW0 i (by omega) _ (by rw [next_late blk i (by omega), ← show j89 = i - 16 by omega, ← show j102 = i - 7 by omega, ← show j80 = i - 15 by omega, ← show j84 = i - 2 by omega, ← hy82, ← hy86, ← hy91, ← hy104]; omega)) ?_; intro w39 M_g6
        replace A_g2 := M_g6.keep A_g2 (Nat.ne_of_lt L_g2_g6)
        replace A_g3 := M_g6.keep A_g3 (Nat.ne_of_lt L_g3_g6)
        replace A_g4 := M_g6.keep A_g4 (Nat.ne_of_lt L_g4_g6)
        replace A_g5 := M_g6.keep A_g5 (Nat.ne_of_lt L_g5_g6)
        replace A_g6 : Kw.At w39 g6 (cells (spreadL blk (i + 1) ++ W0.drop (i + 1))) 56 := M_g6.at_ A_g6
        replace HB := M_g6.below HB G_g6; clear M_g6
        refine Kw.WL_nil ?_
        refine Kw.QN_block ?_
        refine hK35 _ _ ?_; clear hK35 K35
        refine Kw.WC_sub (l' := [(2, .pointer (some ⟨g2, 0, none⟩)), (3, .pointer (some ⟨g3, 0, none⟩)), (4, .pointer (some ⟨g4, 0, none⟩)), (5, .slice (some ⟨g5, 0, none⟩) ((fillS s).size) cap5), (6, .pointer (some ⟨g6, 0, none⟩)), (7, .int .i64 ((64 * B : Nat) : Int)), (10, .int .i64 (i : Int))]) (Kw.Sub.cons rfl (Kw.Sub.cons rfl (Kw.Sub.cons rfl (Kw.Sub.cons rfl (Kw.Sub.cons rfl (Kw.Sub.cons rfl (Kw.Sub.cons rfl Kw.Sub.nil))))))) ?_
        refine Kw.WC_region [some 77, some 78, some 10] rfl ?_
        refine Kw.WL_v rfl rfl rfl (Kw.R_move rfl) ?_
        refine Kw.WL_v rfl rfl rfl (Kw.R_add (c := ((i + 1 : Nat) : Int)) rfl rfl (by rw [Kw.wrap_i64 (by omega)]; omega)) ?_
        refine Kw.WL_v rfl rfl rfl (Kw.R_assign rfl) ?_
        refine Kw.WL_nil ?_
        refine Kw.QN_round (i + 1) ⟨by omega, A_g2, A_g3, A_g4, A_g5, A_g6, HB⟩ (by omega) (Kw.Sub.cons rfl (Kw.Sub.cons rfl (Kw.Sub.cons rfl (Kw.Sub.cons rfl (Kw.Sub.cons rfl (Kw.Sub.cons rfl (Kw.Sub.cons rfl Kw.Sub.nil)))))))
      ·
        refine Kw.WL_v rfl rfl rfl (Kw.R_lss (z := false) rfl rfl (decide_eq_false c34)) ?_
        refine Kw.WL_nil ?_
        refine hK33 _ _ ?_; clear hK33 K33
        refine Kw.WC_false rfl ?_
        refine Kw.WC_exit ?_
        refine Kw.QE_then ?_; clear hK32 K32
        refine Kw.QE_then ?_
        refine Kw.QE_here ?_
        refine hK29 _ _ ?_; clear hK29 K29
        refine Kw.WC_seq (fun K40 hK40 => ?_)
        refine Kw.WC_still 23 [some 116, some 117, some 118, some 119, some 120, some 121, some 122, some 123, some 124, some 125, some 126, some 127, some 128, some 129, some 130, some 131, some 13, some 14, some 15, some 16, some 17, some 18, some 19, some 20] rfl (by kernel_rfl) (by kernel_rfl) ?_
        simp only [List.take_succ_cons, List.take_zero, List.drop_succ_cons, List.drop_zero]
        obtain ⟨w41, hww41⟩ : ∃ x : World, x = Go.World.drew w31 := ⟨_, rfl⟩
        rw [← hww41]
        replace A_g2 : Kw.At w41 g2 F.Z24 24 := by rw [hww41]; exact A_g2
        replace A_g3 : Kw.At w41 g3 (cells K64) 56 := by rw [hww41]; exact A_g3
        replace A_g4 : Kw.At w41 g4 (cells (blocksL K64 (fillS s) H8 B)) 51 := by rw [hww41]; exact A_g4
        replace A_g5 : Kw.At w41 g5 cur5 5 := by rw [hww41]; exact A_g5
        replace A_g6 : Kw.At w41 g6 (cells (spreadL blk i ++ W0.drop i)) 56 := by rw [hww41]; exact A_g6
        replace HB : Below w.heap.size w w41 := by rw [hww41]; exact HB.drew
        clear hww41
        obtain rfl : i = 64 := by omega
        obtain ⟨va, vb, vc, vd, ve, vf, vg, vh, hV⟩ := eight hV8
        refine Kw.WS_v rfl rfl rfl (Kw.R_indexAddrA (i := 0) (o' := 0) rfl rfl Tryd.underlying51 F.sz50 (by decide) (rfl)) ?_
        refine Kw.WS_v rfl rfl rfl (Kw.R_load1 (v := .int .u32 va) rfl Tryd.underlying50 rfl A_g4 (by rw [hV]; rfl)) ?_
        refine Kw.WS_v rfl rfl rfl (Kw.R_indexAddrA (i := 1) (o' := 1) rfl rfl Tryd.underlying51 F.sz50 (by decide) (rfl)) ?_
        refine Kw.WS_v rfl rfl rfl (Kw.R_load1 (v := .int .u32 vb) rfl Tryd.underlying50 rfl A_g4 (by rw [hV]; rfl)) ?_
        refine Kw.WS_v rfl rfl rfl (Kw.R_indexAddrA (i := 2) (o' := 2) rfl rfl Tryd.underlying51 F.sz50 (by decide) (rfl)) ?_
        refine Kw.WS_v rfl rfl rfl (Kw.R_load1 (v := .int .u32 vc) rfl Tryd.underlying50 rfl A_g4 (by rw [hV]; rfl)) ?_
        refine Kw.WS_v rfl rfl rfl (Kw.R_indexAddrA (i := 3) (o' := 3) rfl rfl Tryd.underlying51 F.sz50 (by decide) (rfl)) ?_
        refine Kw.WS_v rfl rfl rfl (Kw.R_load1 (v := .int .u32 vd) rfl Tryd.underlying50 rfl A_g4 (by rw [hV]; rfl)) ?_
        refine Kw.WS_v rfl rfl rfl (Kw.R_indexAddrA (i := 4) (o' := 4) rfl rfl Tryd.underlying51 F.sz50 (by decide) (rfl)) ?_
        refine Kw.WS_v rfl rfl rfl (Kw.R_load1 (v := .int .u32 ve) rfl Tryd.underlying50 rfl A_g4 (by rw [hV]; rfl)) ?_
        refine Kw.WS_v rfl rfl rfl (Kw.R_indexAddrA (i := 5) (o' := 5) rfl rfl Tryd.underlying51 F.sz50 (by decide) (rfl)) ?_
        refine Kw.WS_v rfl rfl rfl (Kw.R_load1 (v := .int .u32 vf) rfl Tryd.underlying50 rfl A_g4 (by rw [hV]; rfl)) ?_
        refine Kw.WS_v rfl rfl rfl (Kw.R_indexAddrA (i := 6) (o' := 6) rfl rfl Tryd.underlying51 F.sz50 (by decide) (rfl)) ?_
        refine Kw.WS_v rfl rfl rfl (Kw.R_load1 (v := .int .u32 vg) rfl Tryd.underlying50 rfl A_g4 (by rw [hV]; rfl)) ?_
        refine Kw.WS_v rfl rfl rfl (Kw.R_indexAddrA (i := 7) (o' := 7) rfl rfl Tryd.underlying51 F.sz50 (by decide) (rfl)) ?_
        refine Kw.WS_v rfl rfl rfl (Kw.R_load1 (v := .int .u32 vh) rfl Tryd.underlying50 rfl A_g4 (by rw [hV]; rfl)) ?_
        refine Kw.WS_v rfl rfl rfl (Kw.R_assign rfl) ?_
        refine Kw.WS_v rfl rfl rfl (Kw.R_assign rfl) ?_
        refine Kw.WS_v rfl rfl rfl (Kw.R_assign rfl) ?_
        refine Kw.WS_v rfl rfl rfl (Kw.R_assign rfl) ?_
        refine Kw.WS_v rfl rfl rfl (Kw.R_assign rfl) ?_
        refine Kw.WS_v rfl rfl rfl (Kw.R_assign rfl) ?_
        refine Kw.WS_v rfl rfl rfl (Kw.R_assign rfl) ?_
        refine Kw.WS_nil ?_
        refine Kw.WL_v rfl rfl rfl (Kw.R_assign rfl) ?_
        refine Kw.WL_nil ?_
        refine hK40 _ _ ?_; clear hK40 K40
        refine Kw.WC_sub (l' := [(2, .pointer (some ⟨g2, 0, none⟩)), (3, .pointer (some ⟨g3, 0, none⟩)), (4, .pointer (some ⟨g4, 0, none⟩)), (5, .slice (some ⟨g5, 0, none⟩) ((fillS s).size) cap5), (6, .pointer (some ⟨g6, 0, none⟩)), (7, .int .i64 ((64 * B : Nat) : Int)), (13, .int .u32 va), (14, .int .u32 vb), (15, .int .u32 vc), (16, .int .u32 vd), (17, .int .u32 ve), (18, .int .u32 vf), (19, .int .u32 vg), (20, .int .u32 vh)]) (Kw.Sub.cons rfl (Kw.Sub.cons rfl (Kw.Sub.cons rfl (Kw.Sub.cons rfl (Kw.Sub.cons rfl (Kw.Sub.cons rfl (Kw.Sub.cons rfl (Kw.Sub.cons rfl (Kw.Sub.cons rfl (Kw.Sub.cons rfl (Kw.Sub.cons rfl (Kw.Sub.cons rfl (Kw.Sub.cons rfl (Kw.Sub.cons rfl Kw.Sub.nil)))))))))))))) ?_
        refine Kw.WC_seq (fun K42 hK42 => ?_)
        refine Kw.WC_seq (fun K43 hK43 => ?_)
        refine Kw.WC_region [some 21] rfl ?_
        refine Kw.WL_v rfl rfl rfl (Kw.R_assign rfl) ?_
        refine Kw.WL_nil ?_
        refine hK43 _ _ ?_; clear hK43 K43
        refine Kw.WC_block ?_
        refine Kw.WC_loop (ι := Nat) (fun (k : Nat) (ww : World) => (k ≤ 64) ∧ Kw.At ww g2 F.Z24 24 ∧ Kw.At ww g3 (cells K64) 56 ∧ Kw.At ww g4 (cells (blocksL K64 (fillS s) H8 B)) 51 ∧ Kw.At ww g5 cur5 5 ∧ Kw.At ww g6 (cells (spreadL blk 64 ++ W0.drop 64)) 56 ∧ Below w.heap.size w ww) (fun (k : Nat) => [(2, .pointer (some ⟨g2, 0, none⟩)), (3, .pointer (some ⟨g3, 0, none⟩)), (4, .pointer (some ⟨g4, 0, none⟩)), (5, .slice (some ⟨g5, 0, none⟩) ((fillS s).size) cap5), (6, .pointer (some ⟨g6, 0, none⟩)), (7, .int .i64 ((64 * B : Nat) : Int)), (13, .int .u32 ((roundsL K64 (spreadL blk 64) (blocksL K64 (fillS s) H8 B) k).getD 0 0)), (14, .int .u32 ((roundsL K64 (spreadL blk 64) (blocksL K64 (fillS s) H8 B) k).getD 1 0)), (15, .int .u32 ((roundsL K64 (spreadL blk 64) (blocksL K64 (fillS s) H8 B) k).getD 2 0)), (16, .int .u32 ((roundsL K64 (spreadL blk 64) (blocksL K64 (fillS s) H8 B) k).getD 3 0)), (17, .int .u32 ((roundsL K64 (spreadL blk 64) (blocksL K64 (fillS s) H8 B) k).getD 4 0)), (18, .int .u32 ((roundsL K64 (spreadL blk 64) (blocksL K64 (fillS s) H8 B) k).getD 5 0)), (19, .int .u32 ((roundsL K64 (spreadL blk 64) (blocksL K64 (fillS s) H8 B) k).getD 6 0)), (20, .int .u32 ((roundsL K64 (spreadL blk 64) (blocksL K64 (fillS s) H8 B) k).getD 7 0)), (21, .int .i64 (k : Int))]) (fun (k : Nat) => 64 - k) 0 ⟨by omega, A_g2, A_g3, A_g4, A_g5, A_g6, HB⟩ (by dsimp only [roundsL]; rw [hV]; exact (Kw.Sub.cons rfl (Kw.Sub.cons rfl (Kw.Sub.cons rfl (Kw.Sub.cons rfl (Kw.Sub.cons rfl (Kw.Sub.cons rfl (Kw.Sub.cons rfl (Kw.Sub.cons rfl (Kw.Sub.cons rfl (Kw.Sub.cons rfl (Kw.Sub.cons rfl (Kw.Sub.cons rfl (Kw.Sub.cons rfl (Kw.Sub.cons rfl (Kw.Sub.cons rfl Kw.Sub.nil)))))))))))))))) ?_
        clear A_g2
        clear A_g3
        clear A_g4
        clear A_g5
        clear A_g6
        clear HB
        rintro k w44 ⟨hk, A_g2, A_g3, A_g4, A_g5, A_g6, HB⟩
        obtain ⟨ra, rb, rc, rd, re, rf, rg, rh, hR⟩ := eight (roundsL_length K64 (spreadL blk 64) (blocksL K64 (fillS s) H8 B) hV8 k)
        have nn := roundsL_nums K64 (spreadL blk 64) (blocksL K64 (fillS s) H8 B) hV8 hVn k
        rw [hR] at nn ⊢
        simp only [List.getD_cons_zero, List.getD_cons_succ]
        have rra := nn ra (by simp); have rre := nn re (by simp)
        refine Kw.WC_seq (fun K45 hK45 => ?_)
        refine Kw.WC_seq (fun K46 hK46 => ?_)
        refine Kw.WC_region [some 132, some 133] rfl ?_
        refine Kw.WL_v rfl rfl rfl (Kw.R_move rfl) ?_
        by_cases c47 : ((k : Int) : Int) < 64
        ·
          refine Kw.WL_v rfl rfl rfl (Kw.R_lss (z := true) rfl rfl (decide_eq_true c47)) ?_
          refine Kw.WL_nil ?_
          refine hK46 _ _ ?_; clear hK46 K46
          refine Kw.WC_true rfl ?_
          refine Kw.WC_skip ?_
          refine hK45 _ _ ?_; clear hK45 K45
          refine Kw.WC_seq (fun K48 hK48 => ?_)
          refine Kw.WC_block ?_
          refine Kw.WC_seq (fun K49 hK49 => ?_)
          refine Kw.WC_still 27 [some 136, some 137, some 138, some 139, some 140, some 141, some 142, some 143, some 144, some 145, some 146, some 147, some 148, some 149, some 150, some 151, some 152, some 153, some 154, some 155, some 156, some 157, some 158, some 159, some 160, some 161, some 162, some 22] rfl (by kernel_rfl) (by kernel_rfl) ?_
          simp only [List.take_succ_cons, List.take_zero, List.drop_succ_cons, List.drop_zero]
          obtain ⟨w50, hww50⟩ : ∃ x : World, x = Go.World.drew w44 := ⟨_, rfl⟩
          rw [← hww50]
          replace A_g2 : Kw.At w50 g2 F.Z24 24 := by rw [hww50]; exact A_g2
          replace A_g3 : Kw.At w50 g3 (cells K64) 56 := by rw [hww50]; exact A_g3
          replace A_g4 : Kw.At w50 g4 (cells (blocksL K64 (fillS s) H8 B)) 51 := by rw [hww50]; exact A_g4
          replace A_g5 : Kw.At w50 g5 cur5 5 := by rw [hww50]; exact A_g5
          replace A_g6 : Kw.At w50 g6 (cells (spreadL blk 64 ++ W0.drop 64)) 56 := by rw [hww50]; exact A_g6
          replace HB : Below w.heap.size w w50 := by rw [hww50]; exact HB.drew
          clear hww50
          refine Kw.WS_v rfl rfl rfl (Kw.R_move rfl) ?_
          refine Kw.WS_v rfl rfl rfl (Kw.R_move rfl) ?_
          refine Kw.WS_call rfl rfl rfl rfl F.cl28 rfl (turn_c re rre 6 (by decide) (by decide) _) ?_
          refine Kw.WS_v rfl rfl rfl (Kw.R_move rfl) ?_
          refine Kw.WS_call rfl rfl rfl rfl F.cl28 rfl (turn_c re rre 11 (by decide) (by decide) _) ?_
          refine Kw.WS_v rfl rfl rfl (Kw.R_bits (c := (xr (rotr re 6) (rotr re 11))) rfl rfl rfl (rfl)) ?_
          refine Kw.WS_v rfl rfl rfl (Kw.R_move rfl) ?_
          refine Kw.WS_call rfl rfl rfl rfl F.cl28 rfl (turn_c re rre 25 (by decide) (by decide) _) ?_
          refine Kw.WS_v rfl rfl rfl (Kw.R_bits (c := (xr (xr (rotr re 6) (rotr re 11)) (rotr re 25))) rfl rfl rfl (rfl)) ?_
          obtain ⟨x145, hx145⟩ : ∃ x : Int, x = (rh + (xr (xr (rotr re 6) (rotr re 11)) (rotr re 25))) % 4294967296 := ⟨_, rfl⟩
          refine Kw.WS_v rfl rfl rfl (Kw.R_add (c := x145) rfl rfl (by rw [Kw.wrap_u32]; rw [hx145])) ?_
          refine Kw.WS_v rfl rfl rfl (Kw.R_move rfl) ?_
          refine Kw.WS_v rfl rfl rfl (Kw.R_move rfl) ?_
          refine Kw.WS_v rfl rfl rfl (Kw.R_bits (c := (an re rf)) rfl rfl rfl (rfl)) ?_
          refine Kw.WS_v rfl rfl rfl (Kw.R_move rfl) ?_
          refine Kw.WS_v rfl rfl rfl (Kw.R_xoru (c := xr IntKind.u32.max re) rfl rfl) ?_
          refine Kw.WS_v rfl rfl rfl (Kw.R_move rfl) ?_
          refine Kw.WS_v rfl rfl rfl (Kw.R_bits (c := (an (xr IntKind.u32.max re) rg)) rfl rfl rfl (rfl)) ?_
          refine Kw.WS_v rfl rfl rfl (Kw.R_bits (c := (xr (an re rf) (an (xr IntKind.u32.max re) rg))) rfl rfl rfl (rfl)) ?_
          obtain ⟨x154, hx154⟩ : ∃ x : Int, x = (x145 + (xr (an re rf) (an (xr IntKind.u32.max re) rg))) % 4294967296 := ⟨_, rfl⟩
          refine Kw.WS_v rfl rfl rfl (Kw.R_add (c := x154) rfl rfl (by rw [Kw.wrap_u32]; rw [hx154])) ?_
          refine Kw.WS_v rfl rfl rfl (Kw.R_move rfl) ?_
          refine Kw.WS_v rfl rfl rfl (Kw.R_indexAddrA (i := k) (o' := k) rfl rfl Tryd.underlying56 F.sz50 (by omega) (by omega)) ?_
          obtain ⟨y157, hy157⟩ : ∃ y, y = K64.getD k 0 := ⟨_, rfl⟩
          refine Kw.WS_v rfl rfl rfl (Kw.R_load1 (v := .int .u32 y157) rfl Tryd.underlying50 rfl A_g3 (by rw [hy157]; exact cells_get K64 k (by show k < 64; omega))) ?_
          obtain ⟨x158, hx158⟩ : ∃ x : Int, x = (x154 + y157) % 4294967296 := ⟨_, rfl⟩
          refine Kw.WS_v rfl rfl rfl (Kw.R_add (c := x158) rfl rfl (by rw [Kw.wrap_u32]; rw [hx158])) ?_
          refine Kw.WS_v rfl rfl rfl (Kw.R_move rfl) ?_
          refine Kw.WS_v rfl rfl rfl (Kw.R_indexAddrA (i := k) (o' := k) rfl rfl Tryd.underlying56 F.sz50 (by omega) (by omega)) ?_
          obtain ⟨y161, hy161⟩ : ∃ y, y = (spreadL blk 64).getD k 0 := ⟨_, rfl⟩
          refine Kw.WS_v rfl rfl rfl (Kw.R_load1 (v := .int .u32 y161) rfl Tryd.underlying50 rfl A_g6 (by rw [hy161]; exact cells_app _ _ _ (by rw [spreadL_length]; omega))) ?_
          obtain ⟨x162, hx162⟩ : ∃ x : Int, x = (x158 + y161) % 4294967296 := ⟨_, rfl⟩
          refine Kw.WS_v rfl rfl rfl (Kw.R_add (c := x162) rfl rfl (by rw [Kw.wrap_u32]; rw [hx162])) ?_
          refine Kw.WS_nil ?_
          refine Kw.WL_v rfl rfl rfl (Kw.R_assign rfl) ?_
          refine Kw.WL_nil ?_
          refine hK49 _ _ ?_; clear hK49 K49
          refine Kw.WC_sub (l' := [(2, .pointer (some ⟨g2, 0, none⟩)), (3, .pointer (some ⟨g3, 0, none⟩)), (4, .pointer (some ⟨g4, 0, none⟩)), (5, .slice (some ⟨g5, 0, none⟩) ((fillS s).size) cap5), (6, .pointer (some ⟨g6, 0, none⟩)), (7, .int .i64 ((64 * B : Nat) : Int)), (13, .int .u32 ra), (14, .int .u32 rb), (15, .int .u32 rc), (16, .int .u32 rd), (17, .int .u32 re), (18, .int .u32 rf), (19, .int .u32 rg), (21, .int .i64 (k : Int)), (22, .int .u32 x162)]) (Kw.Sub.cons rfl (Kw.Sub.cons rfl (Kw.Sub.cons rfl (Kw.Sub.cons rfl (Kw.Sub.cons rfl (Kw.Sub.cons rfl (Kw.Sub.cons rfl (Kw.Sub.cons rfl (Kw.Sub.cons rfl (Kw.Sub.cons rfl (Kw.Sub.cons rfl (Kw.Sub.cons rfl (Kw.Sub.cons rfl (Kw.Sub.cons rfl (Kw.Sub.cons rfl Kw.Sub.nil))))))))))))))) ?_
          refine Kw.WC_seq (fun K51 hK51 => ?_)
          refine Kw.WC_region [some 163, some 164, some 165, some 166, some 167, some 168, some 169, some 170, some 171, some 172, some 173, some 174, some 175, some 176, some 177, some 178, some 179, some 180, some 181, some 182, some 23] rfl ?_
          refine Kw.WL_v rfl rfl rfl (Kw.R_move rfl) ?_
          refine Kw.WL_callc rfl rfl rfl rfl F.cl28 rfl (turn_c ra rra 2 (by decide) (by decide) _) ?_; rintro _ rfl
          refine Kw.WL_v rfl rfl rfl (Kw.R_move rfl) ?_
          refine Kw.WL_callc rfl rfl rfl rfl F.cl28 rfl (turn_c ra rra 13 (by decide) (by decide) _) ?_; rintro _ rfl
          refine Kw.WL_v rfl rfl rfl (Kw.R_bits (c := (xr (rotr ra 2) (rotr ra 13))) rfl rfl rfl (rfl)) ?_
          refine Kw.WL_v rfl rfl rfl (Kw.R_move rfl) ?_
          refine Kw.WL_callc rfl rfl rfl rfl F.cl28 rfl (turn_c ra rra 22 (by decide) (by decide) _) ?_; rintro _ rfl
          refine Kw.WL_v rfl rfl rfl (Kw.R_bits (c := (xr (xr (rotr ra 2) (rotr ra 13)) (rotr ra 22))) rfl rfl rfl (rfl)) ?_
          refine Kw.WL_v rfl rfl rfl (Kw.R_move rfl) ?_
          refine Kw.WL_v rfl rfl rfl (Kw.R_move rfl) ?_
          refine Kw.WL_v rfl rfl rfl (Kw.R_bits (c := (an ra rb)) rfl rfl rfl (rfl)) ?_
          refine Kw.WL_v rfl rfl rfl (Kw.R_move rfl) ?_
          refine Kw.WL_v rfl rfl rfl (Kw.R_move rfl) ?_
          refine Kw.WL_v rfl rfl rfl (Kw.R_bits (c := (an ra rc)) rfl rfl rfl (rfl)) ?_
          refine Kw.WL_v rfl rfl rfl (Kw.R_bits (c := (xr (an ra rb) (an ra rc))) rfl rfl rfl (rfl)) ?_
          refine Kw.WL_v rfl rfl rfl (Kw.R_move rfl) ?_
          refine Kw.WL_v rfl rfl rfl (Kw.R_move rfl) ?_
          refine Kw.WL_v rfl rfl rfl (Kw.R_bits (c := (an rb rc)) rfl rfl rfl (rfl)) ?_
          refine Kw.WL_v rfl rfl rfl (Kw.R_bits (c := (xr (xr (an ra rb) (an ra rc)) (an rb rc))) rfl rfl rfl (rfl)) ?_
          obtain ⟨x182, hx182⟩ : ∃ x : Int, x = ((xr (xr (rotr ra 2) (rotr ra 13)) (rotr ra 22)) + (xr (xr (an ra rb) (an ra rc)) (an rb rc))) % 4294967296 := ⟨_, rfl⟩
          refine Kw.WL_v rfl rfl rfl (Kw.R_add (c := x182) rfl rfl (by rw [Kw.wrap_u32]; rw [hx182])) ?_
          refine Kw.WL_v rfl rfl rfl (Kw.R_assign rfl) ?_
          refine Kw.WL_nil ?_
          refine hK51 _ _ ?_; clear hK51 K51
          refine Kw.WC_sub (l' := [(2, .pointer (some ⟨g2, 0, none⟩)), (3, .pointer (some ⟨g3, 0, none⟩)), (4, .pointer (some ⟨g4, 0, none⟩)), (5, .slice (some ⟨g5, 0, none⟩) ((fillS s).size) cap5), (6, .pointer (some ⟨g6, 0, none⟩)), (7, .int .i64 ((64 * B : Nat) : Int)), (13, .int .u32 ra), (14, .int .u32 rb), (15, .int .u32 rc), (16, .int .u32 rd), (17, .int .u32 re), (18, .int .u32 rf), (19, .int .u32 rg), (21, .int .i64 (k : Int)), (22, .int .u32 x162), (23, .int .u32 x182)]) (Kw.Sub.cons rfl (Kw.Sub.cons rfl (Kw.Sub.cons rfl (Kw.Sub.cons rfl (Kw.Sub.cons rfl (Kw.Sub.cons rfl (Kw.Sub.cons rfl (Kw.Sub.cons rfl (Kw.Sub.cons rfl (Kw.Sub.cons rfl (Kw.Sub.cons rfl (Kw.Sub.cons rfl (Kw.Sub.cons rfl (Kw.Sub.cons rfl (Kw.Sub.cons rfl (Kw.Sub.cons rfl Kw.Sub.nil)))))))))))))))) ?_
          refine Kw.WC_region [some 183, some 184, some 185, some 186, some 187, some 188, some 189, some 190, some 191, some 192, some 193, some 194, some 20, some 19, some 18, some 17, some 16, some 15, some 14, some 13] rfl ?_
          refine Kw.WL_v rfl rfl rfl (Kw.R_move rfl) ?_
          refine Kw.WL_v rfl rfl rfl (Kw.R_move rfl) ?_
          refine Kw.WL_v rfl rfl rfl (Kw.R_move rfl) ?_
          refine Kw.WL_v rfl rfl rfl (Kw.R_move rfl) ?_
          refine Kw.WL_v rfl rfl rfl (Kw.R_move rfl) ?_
          obtain ⟨x188, hx188⟩ : ∃ x : Int, x = (rd + x162) % 4294967296 := ⟨_, rfl⟩
          refine Kw.WL_v rfl rfl rfl (Kw.R_add (c := x188) rfl rfl (by rw [Kw.wrap_u32]; rw [hx188])) ?_
          refine Kw.WL_v rfl rfl rfl (Kw.R_move rfl) ?_
          refine Kw.WL_v rfl rfl rfl (Kw.R_move rfl) ?_
          refine Kw.WL_v rfl rfl rfl (Kw.R_move rfl) ?_
          refine Kw.WL_v rfl rfl rfl (Kw.R_move rfl) ?_
          refine Kw.WL_v rfl rfl rfl (Kw.R_move rfl) ?_
          obtain ⟨x194, hx194⟩ : ∃ x : Int, x = (x162 + x182) % 4294967296 := ⟨_, rfl⟩
          refine Kw.WL_v rfl rfl rfl (Kw.R_add (c := x194) rfl rfl (by rw [Kw.wrap_u32]; rw [hx194])) ?_
          refine Kw.WL_v rfl rfl rfl (Kw.R_assign rfl) ?_
          refine Kw.WL_v rfl rfl rfl (Kw.R_assign rfl) ?_
          refine Kw.WL_v rfl rfl rfl (Kw.R_assign rfl) ?_
          refine Kw.WL_v rfl rfl rfl (Kw.R_assign rfl) ?_
          refine Kw.WL_v rfl rfl rfl (Kw.R_assign rfl) ?_
          refine Kw.WL_v rfl rfl rfl (Kw.R_assign rfl) ?_
          refine Kw.WL_v rfl rfl rfl (Kw.R_assign rfl) ?_
          refine Kw.WL_v rfl rfl rfl (Kw.R_assign rfl) ?_
          refine Kw.WL_nil ?_
          refine Kw.QN_block ?_
          refine hK48 _ _ ?_; clear hK48 K48
          refine Kw.WC_sub (l' := [(2, .pointer (some ⟨g2, 0, none⟩)), (3, .pointer (some ⟨g3, 0, none⟩)), (4, .pointer (some ⟨g4, 0, none⟩)), (5, .slice (some ⟨g5, 0, none⟩) ((fillS s).size) cap5), (6, .pointer (some ⟨g6, 0, none⟩)), (7, .int .i64 ((64 * B : Nat) : Int)), (13, .int .u32 x194), (14, .int .u32 ra), (15, .int .u32 rb), (16, .int .u32 rc), (17, .int .u32 x188), (18, .int .u32 re), (19, .int .u32 rf), (21, .int .i64 (k : Int)), (20, .int .u32 rg)]) (Kw.Sub.cons rfl (Kw.Sub.cons rfl (Kw.Sub.cons rfl (Kw.Sub.cons rfl (Kw.Sub.cons rfl (Kw.Sub.cons rfl (Kw.Sub.cons rfl (Kw.Sub.cons rfl (Kw.Sub.cons rfl (Kw.Sub.cons rfl (Kw.Sub.cons rfl (Kw.Sub.cons rfl (Kw.Sub.cons rfl (Kw.Sub.cons rfl (Kw.Sub.cons rfl Kw.Sub.nil))))))))))))))) ?_
          refine Kw.WC_region [some 134, some 135, some 21] rfl ?_
          refine Kw.WL_v rfl rfl rfl (Kw.R_move rfl) ?_
          refine Kw.WL_v rfl rfl rfl (Kw.R_add (c := ((k + 1 : Nat) : Int)) rfl rfl (by rw [Kw.wrap_i64 (by omega)]; omega)) ?_
          refine Kw.WL_v rfl rfl rfl (Kw.R_assign rfl) ?_
          refine Kw.WL_nil ?_
          have hN := round_next K64 (spreadL blk 64) (blocksL K64 (fillS s) H8 B) k ra rb rc rd re rf rg rh x162 x182 x188 x194 hR (by rw [← hy157, ← hy161]; omega) (by omega) hx188 hx194
          refine Kw.QN_round (k + 1) ⟨by omega, A_g2, A_g3, A_g4, A_g5, A_g6, HB⟩ (by omega) (by rw [hN]; exact (Kw.Sub.cons rfl (Kw.Sub.cons rfl (Kw.Sub.cons rfl (Kw.Sub.cons rfl (Kw.Sub.cons rfl (Kw.Sub.cons rfl (Kw.Sub.cons rfl (Kw.Sub.cons rfl (Kw.Sub.cons rfl (Kw.Sub.cons rfl (Kw.Sub.cons rfl (Kw.Sub.cons rfl (Kw.Sub.cons rfl (Kw.Sub.cons rfl (Kw.Sub.cons rfl Kw.Sub.nil))))))))))))))))
        ·
          refine Kw.WL_v rfl rfl rfl (Kw.R_lss (z := false) rfl rfl (decide_eq_false c47)) ?_
          refine Kw.WL_nil ?_
          refine hK46 _ _ ?_; clear hK46 K46
          refine Kw.WC_false rfl ?_
          refine Kw.WC_exit ?_
          refine Kw.QE_then ?_; clear hK45 K45
          refine Kw.QE_then ?_
          refine Kw.QE_here ?_
          refine hK42 _ _ ?_; clear hK42 K42
          refine Kw.WC_region [some 195, some 196, some 197, some 198, some 199, some 200, some 201, some 202, some 203, some 204, some 205, some 206, some 207, some 208, some 209, some 210, some 211, some 212, some 213, some 214, some 215, some 216, some 217, some 218, some 219, some 220, some 221, some 222, some 223, some 224, some 225, some 226, some 227, none, some 228, none, some 229, none, some 230, none, some 231, none, some 232, none, some 233, none, some 234, none] rfl ?_
          obtain rfl : k = 64 := by omega
          have hM := mix_next K64 (fillS s) blk H8 B hblk va vb vc vd ve vf vg vh ra rb rc rd re rf rg rh hV hR
          replace A_g4 : Kw.At w44 g4 #[.int .u32 va, .int .u32 vb, .int .u32 vc, .int .u32 vd, .int .u32 ve, .int .u32 vf, .int .u32 vg, .int .u32 vh] 51 := by rw [hV] at A_g4; exact A_g4
          refine Kw.WL_v rfl rfl rfl (Kw.R_indexAddrA (i := 0) (o' := 0) rfl rfl Tryd.underlying51 F.sz50 (by decide) (rfl)) ?_
          refine Kw.WL_v rfl rfl rfl (Kw.R_load1 rfl Tryd.underlying50 rfl A_g4 rfl) ?_
          refine Kw.WL_v rfl rfl rfl (Kw.R_move rfl) ?_
          refine Kw.WL_v rfl rfl rfl (Kw.R_add (c := ((va + ra) % 4294967296)) rfl rfl (Kw.wrap_u32 _)) ?_
          refine Kw.WL_v rfl rfl rfl (Kw.R_indexAddrA (i := 1) (o' := 1) rfl rfl Tryd.underlying51 F.sz50 (by decide) (rfl)) ?_
          refine Kw.WL_v rfl rfl rfl (Kw.R_load1 rfl Tryd.underlying50 rfl A_g4 rfl) ?_
          refine Kw.WL_v rfl rfl rfl (Kw.R_move rfl) ?_
          refine Kw.WL_v rfl rfl rfl (Kw.R_add (c := ((vb + rb) % 4294967296)) rfl rfl (Kw.wrap_u32 _)) ?_
          refine Kw.WL_v rfl rfl rfl (Kw.R_indexAddrA (i := 2) (o' := 2) rfl rfl Tryd.underlying51 F.sz50 (by decide) (rfl)) ?_
          refine Kw.WL_v rfl rfl rfl (Kw.R_load1 rfl Tryd.underlying50 rfl A_g4 rfl) ?_
          refine Kw.WL_v rfl rfl rfl (Kw.R_move rfl) ?_
          refine Kw.WL_v rfl rfl rfl (Kw.R_add (c := ((vc + rc) % 4294967296)) rfl rfl (Kw.wrap_u32 _)) ?_
          refine Kw.WL_v rfl rfl rfl (Kw.R_indexAddrA (i := 3) (o' := 3) rfl rfl Tryd.underlying51 F.sz50 (by decide) (rfl)) ?_
          refine Kw.WL_v rfl rfl rfl (Kw.R_load1 rfl Tryd.underlying50 rfl A_g4 rfl) ?_
          refine Kw.WL_v rfl rfl rfl (Kw.R_move rfl) ?_
          refine Kw.WL_v rfl rfl rfl (Kw.R_add (c := ((vd + rd) % 4294967296)) rfl rfl (Kw.wrap_u32 _)) ?_
          refine Kw.WL_v rfl rfl rfl (Kw.R_indexAddrA (i := 4) (o' := 4) rfl rfl Tryd.underlying51 F.sz50 (by decide) (rfl)) ?_
          refine Kw.WL_v rfl rfl rfl (Kw.R_load1 rfl Tryd.underlying50 rfl A_g4 rfl) ?_
          refine Kw.WL_v rfl rfl rfl (Kw.R_move rfl) ?_
          refine Kw.WL_v rfl rfl rfl (Kw.R_add (c := ((ve + re) % 4294967296)) rfl rfl (Kw.wrap_u32 _)) ?_
          refine Kw.WL_v rfl rfl rfl (Kw.R_indexAddrA (i := 5) (o' := 5) rfl rfl Tryd.underlying51 F.sz50 (by decide) (rfl)) ?_
          refine Kw.WL_v rfl rfl rfl (Kw.R_load1 rfl Tryd.underlying50 rfl A_g4 rfl) ?_
          refine Kw.WL_v rfl rfl rfl (Kw.R_move rfl) ?_
          refine Kw.WL_v rfl rfl rfl (Kw.R_add (c := ((vf + rf) % 4294967296)) rfl rfl (Kw.wrap_u32 _)) ?_
          refine Kw.WL_v rfl rfl rfl (Kw.R_indexAddrA (i := 6) (o' := 6) rfl rfl Tryd.underlying51 F.sz50 (by decide) (rfl)) ?_
          refine Kw.WL_v rfl rfl rfl (Kw.R_load1 rfl Tryd.underlying50 rfl A_g4 rfl) ?_
          refine Kw.WL_v rfl rfl rfl (Kw.R_move rfl) ?_
          refine Kw.WL_v rfl rfl rfl (Kw.R_add (c := ((vg + rg) % 4294967296)) rfl rfl (Kw.wrap_u32 _)) ?_
          refine Kw.WL_v rfl rfl rfl (Kw.R_indexAddrA (i := 7) (o' := 7) rfl rfl Tryd.underlying51 F.sz50 (by decide) (rfl)) ?_
          refine Kw.WL_v rfl rfl rfl (Kw.R_load1 rfl Tryd.underlying50 rfl A_g4 rfl) ?_
          refine Kw.WL_v rfl rfl rfl (Kw.R_move rfl) ?_
          refine Kw.WL_v rfl rfl rfl (Kw.R_add (c := ((vh + rh) % 4294967296)) rfl rfl (Kw.wrap_u32 _)) ?_
          refine Kw.WL_v rfl rfl rfl (Kw.R_indexAddrA (i := 0) (o' := 0) rfl rfl Tryd.underlying51 F.sz50 (by decide) (rfl)) ?_
          refine Kw.WL_store1 (ds := #[.int .u32 ((va + ra) % 4294967296), .int .u32 vb, .int .u32 vc, .int .u32 vd, .int .u32 ve, .int .u32 vf, .int .u32 vg, .int .u32 vh]) rfl rfl rfl F.sz50 A_g4 (by show 0 < 8; decide) rfl rfl (rfl) ?_; intro w52 M_g4
          replace A_g2 := M_g4.keep A_g2 (Nat.ne_of_lt L_g2_g4)
          replace A_g3 := M_g4.keep A_g3 (Nat.ne_of_lt L_g3_g4)
          replace A_g5 := M_g4.keep A_g5 (Nat.ne_of_gt L_g4_g5)
          replace A_g6 := M_g4.keep A_g6 (Nat.ne_of_gt L_g4_g6)
          replace A_g4 : Kw.At w52 g4 #[.int .u32 ((va + ra) % 4294967296), .int .u32 vb, .int .u32 vc, .int .u32 vd, .int .u32 ve, .int .u32 vf, .int .u32 vg, .int .u32 vh] 51 := M_g4.at_ A_g4
          replace HB := M_g4.below HB G_g4; clear M_g4
          refine Kw.WL_v rfl rfl rfl (Kw.R_indexAddrA (i := 1) (o' := 1) rfl rfl Tryd.underlying51 F.sz50 (by decide) (rfl)) ?_
          refine Kw.WL_store1 (ds := #[.int .u32 ((va + ra) % 4294967296), .int .u32 ((vb + rb) % 4294967296), .int .u32 vc, .int .u32 vd, .int .u32 ve, .int .u32 vf, .int .u32 vg, .int .u32 vh]) rfl rfl rfl F.sz50 A_g4 (by show 1 < 8; decide) rfl rfl (rfl) ?_; intro w53 M_g4
          replace A_g2 := M_g4.keep A_g2 (Nat.ne_of_lt L_g2_g4)
          replace A_g3 := M_g4.keep A_g3 (Nat.ne_of_lt L_g3_g4)
          replace A_g5 := M_g4.keep A_g5 (Nat.ne_of_gt L_g4_g5)
          replace A_g6 := M_g4.keep A_g6 (Nat.ne_of_gt L_g4_g6)
          replace A_g4 : Kw.At w53 g4 #[.int .u32 ((va + ra) % 4294967296), .int .u32 ((vb + rb) % 4294967296), .int .u32 vc, .int .u32 vd, .int .u32 ve, .int .u32 vf, .int .u32 vg, .int .u32 vh] 51 := M_g4.at_ A_g4
          replace HB := M_g4.below HB G_g4; clear M_g4
          refine Kw.WL_v rfl rfl rfl (Kw.R_indexAddrA (i := 2) (o' := 2) rfl rfl Tryd.underlying51 F.sz50 (by decide) (rfl)) ?_
          refine Kw.WL_store1 (ds := #[.int .u32 ((va + ra) % 4294967296), .int .u32 ((vb + rb) % 4294967296), .int .u32 ((vc + rc) % 4294967296), .int .u32 vd, .int .u32 ve, .int .u32 vf, .int .u32 vg, .int .u32 vh]) rfl rfl rfl F.sz50 A_g4 (by show 2 < 8; decide) rfl rfl (rfl) ?_; intro w54 M_g4
          replace A_g2 := M_g4.keep A_g2 (Nat.ne_of_lt L_g2_g4)
          replace A_g3 := M_g4.keep A_g3 (Nat.ne_of_lt L_g3_g4)
          replace A_g5 := M_g4.keep A_g5 (Nat.ne_of_gt L_g4_g5)
          replace A_g6 := M_g4.keep A_g6 (Nat.ne_of_gt L_g4_g6)
          replace A_g4 : Kw.At w54 g4 #[.int .u32 ((va + ra) % 4294967296), .int .u32 ((vb + rb) % 4294967296), .int .u32 ((vc + rc) % 4294967296), .int .u32 vd, .int .u32 ve, .int .u32 vf, .int .u32 vg, .int .u32 vh] 51 := M_g4.at_ A_g4
          replace HB := M_g4.below HB G_g4; clear M_g4
          refine Kw.WL_v rfl rfl rfl (Kw.R_indexAddrA (i := 3) (o' := 3) rfl rfl Tryd.underlying51 F.sz50 (by decide) (rfl)) ?_
          refine Kw.WL_store1 (ds := #[.int .u32 ((va + ra) % 4294967296), .int .u32 ((vb + rb) % 4294967296), .int .u32 ((vc + rc) % 4294967296), .int .u32 ((vd + rd) % 4294967296), .int .u32 ve, .int .u32 vf, .int .u32 vg, .int .u32 vh]) rfl rfl rfl F.sz50 A_g4 (by show 3 < 8; decide) rfl rfl (rfl) ?_; intro w55 M_g4
          replace A_g2 := M_g4.keep A_g2 (Nat.ne_of_lt L_g2_g4)
          replace A_g3 := M_g4.keep A_g3 (Nat.ne_of_lt L_g3_g4)
          replace A_g5 := M_g4.keep A_g5 (Nat.ne_of_gt L_g4_g5)
          replace A_g6 := M_g4.keep A_g6 (Nat.ne_of_gt L_g4_g6)
          replace A_g4 : Kw.At w55 g4 #[.int .u32 ((va + ra) % 4294967296), .int .u32 ((vb + rb) % 4294967296), .int .u32 ((vc + rc) % 4294967296), .int .u32 ((vd + rd) % 4294967296), .int .u32 ve, .int .u32 vf, .int .u32 vg, .int .u32 vh] 51 := M_g4.at_ A_g4
          replace HB := M_g4.below HB G_g4; clear M_g4
          refine Kw.WL_v rfl rfl rfl (Kw.R_indexAddrA (i := 4) (o' := 4) rfl rfl Tryd.underlying51 F.sz50 (by decide) (rfl)) ?_
          refine Kw.WL_store1 (ds := #[.int .u32 ((va + ra) % 4294967296), .int .u32 ((vb + rb) % 4294967296), .int .u32 ((vc + rc) % 4294967296), .int .u32 ((vd + rd) % 4294967296), .int .u32 ((ve + re) % 4294967296), .int .u32 vf, .int .u32 vg, .int .u32 vh]) rfl rfl rfl F.sz50 A_g4 (by show 4 < 8; decide) rfl rfl (rfl) ?_; intro w56 M_g4
          replace A_g2 := M_g4.keep A_g2 (Nat.ne_of_lt L_g2_g4)
          replace A_g3 := M_g4.keep A_g3 (Nat.ne_of_lt L_g3_g4)
          replace A_g5 := M_g4.keep A_g5 (Nat.ne_of_gt L_g4_g5)
          replace A_g6 := M_g4.keep A_g6 (Nat.ne_of_gt L_g4_g6)
          replace A_g4 : Kw.At w56 g4 #[.int .u32 ((va + ra) % 4294967296), .int .u32 ((vb + rb) % 4294967296), .int .u32 ((vc + rc) % 4294967296), .int .u32 ((vd + rd) % 4294967296), .int .u32 ((ve + re) % 4294967296), .int .u32 vf, .int .u32 vg, .int .u32 vh] 51 := M_g4.at_ A_g4
          replace HB := M_g4.below HB G_g4; clear M_g4
          refine Kw.WL_v rfl rfl rfl (Kw.R_indexAddrA (i := 5) (o' := 5) rfl rfl Tryd.underlying51 F.sz50 (by decide) (rfl)) ?_
          refine Kw.WL_store1 (ds := #[.int .u32 ((va + ra) % 4294967296), .int .u32 ((vb + rb) % 4294967296), .int .u32 ((vc + rc) % 4294967296), .int .u32 ((vd + rd) % 4294967296), .int .u32 ((ve + re) % 4294967296), .int .u32 ((vf + rf) % 4294967296), .int .u32 vg, .int .u32 vh]) rfl rfl rfl F.sz50 A_g4 (by show 5 < 8; decide) rfl rfl (rfl) ?_; intro w57 M_g4
          replace A_g2 := M_g4.keep A_g2 (Nat.ne_of_lt L_g2_g4)
          replace A_g3 := M_g4.keep A_g3 (Nat.ne_of_lt L_g3_g4)
          replace A_g5 := M_g4.keep A_g5 (Nat.ne_of_gt L_g4_g5)
          replace A_g6 := M_g4.keep A_g6 (Nat.ne_of_gt L_g4_g6)
          replace A_g4 : Kw.At w57 g4 #[.int .u32 ((va + ra) % 4294967296), .int .u32 ((vb + rb) % 4294967296), .int .u32 ((vc + rc) % 4294967296), .int .u32 ((vd + rd) % 4294967296), .int .u32 ((ve + re) % 4294967296), .int .u32 ((vf + rf) % 4294967296), .int .u32 vg, .int .u32 vh] 51 := M_g4.at_ A_g4
          replace HB := M_g4.below HB G_g4; clear M_g4
          refine Kw.WL_v rfl rfl rfl (Kw.R_indexAddrA (i := 6) (o' := 6) rfl rfl Tryd.underlying51 F.sz50 (by decide) (rfl)) ?_
          refine Kw.WL_store1 (ds := #[.int .u32 ((va + ra) % 4294967296), .int .u32 ((vb + rb) % 4294967296), .int .u32 ((vc + rc) % 4294967296), .int .u32 ((vd + rd) % 4294967296), .int .u32 ((ve + re) % 4294967296), .int .u32 ((vf + rf) % 4294967296), .int .u32 ((vg + rg) % 4294967296), .int .u32 vh]) rfl rfl rfl F.sz50 A_g4 (by show 6 < 8; decide) rfl rfl (rfl) ?_; intro w58 M_g4
          replace A_g2 := M_g4.keep A_g2 (Nat.ne_of_lt L_g2_g4)
          replace A_g3 := M_g4.keep A_g3 (Nat.ne_of_lt L_g3_g4)
          replace A_g5 := M_g4.keep A_g5 (Nat.ne_of_gt L_g4_g5)
          replace A_g6 := M_g4.keep A_g6 (Nat.ne_of_gt L_g4_g6)
          replace A_g4 : Kw.At w58 g4 #[.int .u32 ((va + ra) % 4294967296), .int .u32 ((vb + rb) % 4294967296), .int .u32 ((vc + rc) % 4294967296), .int .u32 ((vd + rd) % 4294967296), .int .u32 ((ve + re) % 4294967296), .int .u32 ((vf + rf) % 4294967296), .int .u32 ((vg + rg) % 4294967296), .int .u32 vh] 51 := M_g4.at_ A_g4
          replace HB := M_g4.below HB G_g4; clear M_g4
          refine Kw.WL_v rfl rfl rfl (Kw.R_indexAddrA (i := 7) (o' := 7) rfl rfl Tryd.underlying51 F.sz50 (by decide) (rfl)) ?_
          refine Kw.WL_store1 (ds := #[.int .u32 ((va + ra) % 4294967296), .int .u32 ((vb + rb) % 4294967296), .int .u32 ((vc + rc) % 4294967296), .int .u32 ((vd + rd) % 4294967296), .int .u32 ((ve + re) % 4294967296), .int .u32 ((vf + rf) % 4294967296), .int .u32 ((vg + rg) % 4294967296), .int .u32 ((vh + rh) % 4294967296)]) rfl rfl rfl F.sz50 A_g4 (by show 7 < 8; decide) rfl rfl (rfl) ?_; intro w59 M_g4
          replace A_g2 := M_g4.keep A_g2 (Nat.ne_of_lt L_g2_g4)
          replace A_g3 := M_g4.keep A_g3 (Nat.ne_of_lt L_g3_g4)
          replace A_g5 := M_g4.keep A_g5 (Nat.ne_of_gt L_g4_g5)
          replace A_g6 := M_g4.keep A_g6 (Nat.ne_of_gt L_g4_g6)
          replace A_g4 : Kw.At w59 g4 #[.int .u32 ((va + ra) % 4294967296), .int .u32 ((vb + rb) % 4294967296), .int .u32 ((vc + rc) % 4294967296), .int .u32 ((vd + rd) % 4294967296), .int .u32 ((ve + re) % 4294967296), .int .u32 ((vf + rf) % 4294967296), .int .u32 ((vg + rg) % 4294967296), .int .u32 ((vh + rh) % 4294967296)] 51 := M_g4.at_ A_g4
          replace HB := M_g4.below HB G_g4; clear M_g4
          refine Kw.WL_nil ?_
          refine Kw.QN_block ?_
          refine hK18 _ _ ?_; clear hK18 K18
          refine Kw.WC_sub (l' := [(2, .pointer (some ⟨g2, 0, none⟩)), (3, .pointer (some ⟨g3, 0, none⟩)), (4, .pointer (some ⟨g4, 0, none⟩)), (5, .slice (some ⟨g5, 0, none⟩) ((fillS s).size) cap5), (6, .pointer (some ⟨g6, 0, none⟩)), (7, .int .i64 ((64 * B : Nat) : Int))]) (Kw.Sub.cons rfl (Kw.Sub.cons rfl (Kw.Sub.cons rfl (Kw.Sub.cons rfl (Kw.Sub.cons rfl (Kw.Sub.cons rfl Kw.Sub.nil)))))) ?_
          refine Kw.WC_region [some 34, some 35, some 7] rfl ?_
          refine Kw.WL_v rfl rfl rfl (Kw.R_move rfl) ?_
          replace A_g4 : Kw.At w59 g4 (cells (blocksL K64 (fillS s) H8 (B + 1))) 51 := by rw [hM]; exact A_g4
          refine Kw.WL_v rfl rfl rfl (Kw.R_add (c := ((64 * (B + 1) : Nat) : Int)) rfl rfl (by rw [Kw.wrap_i64 (by omega)]; omega)) ?_
          refine Kw.WL_v rfl rfl rfl (Kw.R_assign rfl) ?_
          refine Kw.WL_nil ?_
          refine Kw.QN_round ((B + 1, spreadL blk 64 ++ W0.drop 64)) ⟨⟨by omega, by rw [List.length_append, spreadL_length, List.length_drop]; omega⟩, A_g2, A_g3, A_g4, A_g5, A_g6, HB⟩ (by dsimp only; omega) (Kw.Sub.cons rfl (Kw.Sub.cons rfl (Kw.Sub.cons rfl (Kw.Sub.cons rfl (Kw.Sub.cons rfl (Kw.Sub.cons rfl Kw.Sub.nil))))))
  ·
    refine Kw.WL_v rfl rfl rfl (Kw.R_lss (z := false) rfl rfl (decide_eq_false c17)) ?_
    refine Kw.WL_nil ?_
    refine hK16 _ _ ?_; clear hK16 K16
    refine Kw.WC_false rfl ?_
    refine Kw.WC_exit ?_
    refine Kw.QE_then ?_; clear hK15 K15
    refine Kw.QE_then ?_
    refine Kw.QE_here ?_
    refine hK12 _ _ ?_; clear hK12 K12
    refine Kw.WC_sub (l' := [(2, .pointer (some ⟨g2, 0, none⟩)), (4, .pointer (some ⟨g4, 0, none⟩))]) (Kw.Sub.cons rfl (Kw.Sub.cons rfl Kw.Sub.nil)) ?_
    refine Kw.WC_seq (fun K60 hK60 => ?_)
    refine Kw.WC_region [some 24] rfl ?_
    obtain rfl : B = (blockN s) := by omega
    refine Kw.WL_alloc rfl rfl F.zr24 ?_; intro g24 w61 N_g24
    have L_g2_g24 := N_g24.ne A_g2; replace A_g2 := N_g24.keep A_g2
    have L_g3_g24 := N_g24.ne A_g3; replace A_g3 := N_g24.keep A_g3
    have L_g4_g24 := N_g24.ne A_g4; replace A_g4 := N_g24.keep A_g4
    have L_g5_g24 := N_g24.ne A_g5; replace A_g5 := N_g24.keep A_g5
    have L_g6_g24 := N_g24.ne A_g6; replace A_g6 := N_g24.keep A_g6
    have A_g24 : Kw.At w61 g24 F.Z24 24 := N_g24.at_
    have G_g24 := N_g24.ge HB (Nat.le_refl _); replace HB := N_g24.below HB (Nat.le_refl _); clear N_g24
    refine Kw.WL_nil ?_
    refine hK60 _ _ ?_; clear hK60 K60
    refine Kw.WC_seq (fun K62 hK62 => ?_)
    refine Kw.WC_seq (fun K63 hK63 => ?_)
    refine Kw.WC_region [some 25] rfl ?_
    refine Kw.WL_v rfl rfl rfl (Kw.R_assign rfl) ?_
    refine Kw.WL_nil ?_
    refine hK63 _ _ ?_; clear hK63 K63
    refine Kw.WC_block ?_
    replace A_g24 : Kw.At w61 g24 (cells8 (outB (blocksL K64 (fillS s) H8 (blockN s)) 0)) 24 := by rw [outB_zero, ← Z24_eq]; exact A_g24
    refine Kw.WC_loop (ι := Nat) (fun (i : Nat) (ww : World) => (i ≤ 32) ∧ Kw.At ww g2 F.Z24 24 ∧ Kw.At ww g3 (cells K64) 56 ∧ Kw.At ww g4 (cells (blocksL K64 (fillS s) H8 (blockN s))) 51 ∧ Kw.At ww g5 cur5 5 ∧ Kw.At ww g6 (cells W0) 56 ∧ Kw.At ww g24 (cells8 (outB (blocksL K64 (fillS s) H8 (blockN s)) i)) 24 ∧ Below w.heap.size w ww) (fun (i : Nat) => [(2, .pointer (some ⟨g2, 0, none⟩)), (4, .pointer (some ⟨g4, 0, none⟩)), (24, .pointer (some ⟨g24, 0, none⟩)), (25, .int .i64 (i : Int))]) (fun (i : Nat) => 32 - i) 0 ⟨by omega, A_g2, A_g3, A_g4, A_g5, A_g6, A_g24, HB⟩ (Kw.Sub.cons rfl (Kw.Sub.cons rfl (Kw.Sub.cons rfl (Kw.Sub.cons rfl Kw.Sub.nil)))) ?_
    clear A_g2
    clear A_g3
    clear A_g4
    clear A_g5
    clear A_g6
    clear A_g24
    clear HB
    rintro i w64 ⟨hi, A_g2, A_g3, A_g4, A_g5, A_g6, A_g24, HB⟩
    refine Kw.WC_seq (fun K65 hK65 => ?_)
    refine Kw.WC_seq (fun K66 hK66 => ?_)
    refine Kw.WC_region [some 235, some 236] rfl ?_
    refine Kw.WL_v rfl rfl rfl (Kw.R_move rfl) ?_
    by_cases c67 : ((i : Int) : Int) < 32
    ·
      refine Kw.WL_v rfl rfl rfl (Kw.R_lss (z := true) rfl rfl (decide_eq_true c67)) ?_
      refine Kw.WL_nil ?_
      refine hK66 _ _ ?_; clear hK66 K66
      refine Kw.WC_true rfl ?_
      refine Kw.WC_skip ?_
      refine hK65 _ _ ?_; clear hK65 K65
      refine Kw.WC_seq (fun K68 hK68 => ?_)
      refine Kw.WC_block ?_
      refine Kw.WC_region [some 239, some 240, some 241, some 242, some 243, some 244, some 245, some 246, some 247, some 248, some 249, some 250, none] rfl ?_
      refine Kw.WL_v rfl rfl rfl (Kw.R_move rfl) ?_
      refine Kw.WL_v rfl rfl rfl (Kw.R_move rfl) ?_
      obtain ⟨q4, hq4⟩ : ∃ x : Nat, (x : Int) = (i : Int) / 4 := ⟨((i : Int) / 4).toNat, by omega⟩
      refine Kw.WL_v rfl rfl rfl (Kw.R_quo (c := (q4 : Int)) rfl rfl (by omega) (by rw [Kw.tdiv_pos (by omega), Kw.wrap_i64 (by omega)]; rw [hq4])) ?_
      refine Kw.WL_v rfl rfl rfl (Kw.R_indexAddrA (i := q4) (o' := q4) rfl rfl Tryd.underlying51 F.sz50 (by omega) (by omega)) ?_
      obtain ⟨y243, hy243⟩ : ∃ y, y = (blocksL K64 (fillS s) H8 (blockN s)).getD q4 0 := ⟨_, rfl⟩
      have ry243 : 0 ≤ y243 ∧ y243 < 4294967296 := by rw [hy243]; exact nums_at hVn _
      refine Kw.WL_v rfl rfl rfl (Kw.R_load1 (v := .int .u32 y243) rfl Tryd.underlying50 rfl A_g4 (by rw [hy243]; exact cells_get _ _ (by rw [hV8]; omega))) ?_
      refine Kw.WL_v rfl rfl rfl (Kw.R_move rfl) ?_
      obtain ⟨m4, hm4⟩ : ∃ x : Nat, (x : Int) = (i : Int) % 4 := ⟨((i : Int) % 4).toNat, by omega⟩
      refine Kw.WL_v rfl rfl rfl (Kw.R_rem (c := (m4 : Int)) rfl rfl (by omega) (by rw [Kw.tmod_pos (by omega)]; rw [hm4])) ?_
      obtain ⟨x246, hx246⟩ : ∃ x : Int, x = 8 * (m4 : Int) := ⟨_, rfl⟩
      refine Kw.WL_v rfl rfl rfl (Kw.R_mul (c := x246) rfl rfl (by rw [Kw.wrap_i64 (by omega)]; rw [hx246])) ?_
      obtain ⟨x247, hx247⟩ : ∃ x : Int, x = 24 - x246 := ⟨_, rfl⟩
      refine Kw.WL_v rfl rfl rfl (Kw.R_sub (c := x247) rfl rfl (by rw [Kw.wrap_i64 (by omega)]; rw [hx247])) ?_
      refine Kw.WL_v rfl rfl rfl (Kw.R_shr (c := y243 / 256 ^ (3 - i % 4)) rfl rfl (by omega) (shr_out _ _ i (by omega))) ?_
      refine Kw.WL_v rfl rfl rfl (Kw.R_conv (c := (y243 / 256 ^ (3 - i % 4) % 256)) Tryd.underlying50 Tryd.underlying5 rfl (Kw.wrap_u8 _)) ?_
      refine Kw.WL_v rfl rfl rfl (Kw.R_indexAddrA (i := i) (o' := i) rfl rfl Tryd.underlying24 F.sz5 (by omega) (by omega)) ?_
      refine Kw.WL_store1 (ds := cells8 (outB (blocksL K64 (fillS s) H8 (blockN s)) (i + 1))) rfl rfl rfl F.sz5 A_g24 (by rw [cells8_size, outB_size _ _ (by omega)]; omega) rfl rfl (outB_next _ i (by omega) _ (by rw [hy243, show q4 = i / 4 by omega])) ?_; intro w69 M_g24
      replace A_g2 := M_g24.keep A_g2 (Nat.ne_of_lt L_g2_g24)
      replace A_g3 := M_g24.keep A_g3 (Nat.ne_of_lt L_g3_g24)
      replace A_g4 := M_g24.keep A_g4 (Nat.ne_of_lt L_g4_g24)
      replace A_g5 := M_g24.keep A_g5 (Nat.ne_of_lt L_g5_g24)
      replace A_g6 := M_g24.keep A_g6 (Nat.ne_of_lt L_g6_g24)
      replace A_g24 : Kw.At w69 g24 (cells8 (outB (blocksL K64 (fillS s) H8 (blockN s)) (i + 1))) 24 := M_g24.at_ A_g24
      replace HB := M_g24.below HB G_g24; clear M_g24
      refine Kw.WL_nil ?_
      refine Kw.QN_block ?_
      refine hK68 _ _ ?_; clear hK68 K68
      refine Kw.WC_sub (l' := [(2, .pointer (some ⟨g2, 0, none⟩)), (4, .pointer (some ⟨g4, 0, none⟩)), (24, .pointer (some ⟨g24, 0, none⟩)), (25, .int .i64 (i : Int))]) (Kw.Sub.cons rfl (Kw.Sub.cons rfl (Kw.Sub.cons rfl (Kw.Sub.cons rfl Kw.Sub.nil)))) ?_
      refine Kw.WC_region [some 237, some 238, some 25] rfl ?_
      refine Kw.WL_v rfl rfl rfl (Kw.R_move rfl) ?_
      refine Kw.WL_v rfl rfl rfl (Kw.R_add (c := ((i + 1 : Nat) : Int)) rfl rfl (by rw [Kw.wrap_i64 (by omega)]; omega)) ?_
      refine Kw.WL_v rfl rfl rfl (Kw.R_assign rfl) ?_
      refine Kw.WL_nil ?_
      refine Kw.QN_round (i + 1) ⟨by omega, A_g2, A_g3, A_g4, A_g5, A_g6, A_g24, HB⟩ (by omega) (Kw.Sub.cons rfl (Kw.Sub.cons rfl (Kw.Sub.cons rfl (Kw.Sub.cons rfl Kw.Sub.nil))))
    ·
      refine Kw.WL_v rfl rfl rfl (Kw.R_lss (z := false) rfl rfl (decide_eq_false c67)) ?_
      refine Kw.WL_nil ?_
      refine hK66 _ _ ?_; clear hK66 K66
      refine Kw.WC_false rfl ?_
      refine Kw.WC_exit ?_
      refine Kw.QE_then ?_; clear hK65 K65
      refine Kw.QE_then ?_
      refine Kw.QE_here ?_
      refine hK62 _ _ ?_; clear hK62 K62
      refine Kw.WC_seq (fun K70 hK70 => ?_)
      refine Kw.WC_region [some 251, none] rfl ?_
      obtain rfl : i = 32 := by omega
      refine Kw.WL_v rfl rfl rfl (Kw.R_loadW rfl Tryd.underlying24 rfl (by rw [cells8_size, outB_size _ _ (Nat.le_refl _)]; exact F.sz24) A_g24) ?_
      refine Kw.WL_storeW rfl rfl rfl (by rw [cells8_size, outB_size _ _ (Nat.le_refl _)]; exact F.sz24) A_g2 (by rw [cells8_size, outB_size _ _ (Nat.le_refl _)]; rfl) (by simpa using cells8_one _) ?_; intro w71 M_g2
      replace A_g3 := M_g2.keep A_g3 (Nat.ne_of_gt L_g2_g3)
      replace A_g4 := M_g2.keep A_g4 (Nat.ne_of_gt L_g2_g4)
      replace A_g5 := M_g2.keep A_g5 (Nat.ne_of_gt L_g2_g5)
      replace A_g6 := M_g2.keep A_g6 (Nat.ne_of_gt L_g2_g6)
      replace A_g24 := M_g2.keep A_g24 (Nat.ne_of_gt L_g2_g24)
      replace A_g2 : Kw.At w71 g2 (cells8 (outB (blocksL K64 (fillS s) H8 (blockN s)) 32)) 24 := M_g2.at_ A_g2
      replace HB := M_g2.below HB G_g2; clear M_g2
      refine Kw.WL_nil ?_
      refine hK70 _ _ ?_; clear hK70 K70
      refine Kw.WC_sub (l' := [(2, .pointer (some ⟨g2, 0, none⟩))]) (Kw.Sub.cons rfl Kw.Sub.nil) ?_
      refine Kw.WC_ret ?_
      rw [outB_all] at A_g2
      exact Kw.post_ret1 rfl (Kw.RV_row rfl Tryd.underlying24 rfl (by rw [cells8_size, outL_length]; exact F.sz24) A_g2) ⟨rfl, HB⟩
end Go.Proofs.YtngkedoaijlnlaaDoor.Fn
