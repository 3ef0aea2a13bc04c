/- All frames of the packing and of its reference stand alike; the frame of two letters; a row of frames. -/
import Derived.Test.YtngkedoaijlnlaaDoorFrm3
namespace Go.Proofs.YtngkedoaijlnlaaDoor.Fn
open Go Go.Proofs Go.RowKit Go.Proofs.YtngkedoaijlnlaaDoorW.PrintWords Go.Proofs.YtngkedoaijlnlaaDoorW.PrintLast Go.Proofs.YtngkedoaijlnlaaDoorW.PrintMore
set_option linter.unusedVariables false
set_option linter.unusedSimpArgs false
theorem byt_list (s : ByteArray) (i : Nat) (v : UInt8) (h : s.data.toList[i]? = some v) : Kw.byt s i = (v.toNat : Int) := by
  have hl : i < s.data.toList.length := (List.getElem?_eq_some_iff.1 h).1
  have hs : i < s.size := by simpa using hl
  unfold Kw.byt
  rw [dif_pos hs]
  have e : s[i] = s.data.toList[i] := by rw [Array.getElem_toList]; rfl
  rw [e, (List.getElem?_eq_some_iff.1 h).2]
theorem byt_nums (l : List Int) (hb : Bytes l) (i : Nat) (x : Int) (h : l[i]? = some x) : Kw.byt (strOfNums l) i = x := by
  rw [byt_list (strOfNums l) i x.toNat.toUInt8 (by rw [strOfNums_data, List.getElem?_map, h]; rfl)]
  have hx := hb x (List.mem_of_getElem? h)
  exact u8_back x (by omega)
theorem be4_is (x : Int) : be 4 x = [x / 256 ^ 3 % 256, x / 256 ^ 2 % 256, x / 256 % 256, x % 256] := by
  rw [be_last, be_last, be_last, be_last]
  simp [be]
theorem getS_len (n : Nat) (h : n < 4294967296) : getS (lenB n) = n := by
  rw [get4 _ (lenB_size n), lenB_be]
  have hb := be_bytes 4 (n : Int)
  have e := be4_is (n : Int)
  have b0 := byt_nums _ hb 0 _ (by rw [e]; rfl)
  have b1 := byt_nums _ hb 1 _ (by rw [e]; rfl)
  have b2 := byt_nums _ hb 2 _ (by rw [e]; rfl)
  have b3 := byt_nums _ hb 3 _ (by rw [e]; rfl)
  rw [byt_bt] at b0 b1 b2 b3
  show word (bt _ ((0 : Nat) : Int)) (bt _ ((1 : Nat) : Int)) (bt _ ((2 : Nat) : Int)) (bt _ ((3 : Nat) : Int)) = _
  rw [b0, b1, b2, b3]
  unfold word
  omega
theorem x_left {a b : ByteArray} {i n : Nat} (h : n ≤ a.size) : (a ++ b).extract i n = a.extract i n := by
  rw [ByteArray.extract_append]
  have : b.extract (i - a.size) (n - a.size) = ByteArray.empty := ByteArray.size_eq_zero_iff.1 (by rw [ByteArray.size_extract]; omega)
  rw [this, ByteArray.append_empty]
theorem num4_of {b : ByteArray} {n : Nat} (h : b.extract 0 4 = lenB n) (hn : n < 4294967296) : num4 b = n := by unfold num4; rw [h]; exact getS_len n hn
theorem frm4 (p r : ByteArray) : (frm p ++ r).extract 0 4 = lenB p.size := by
  unfold frm hd
  rw [ByteArray.append_assoc, ByteArray.append_assoc]
  exact ByteArray.extract_append_eq_left (lenB_size _).symm
theorem cut_frm (p r : ByteArray) (hp : p.size ≤ 65536) : cutV (frm p ++ r) = some p := by
  have hn := num4_of (frm4 p r) (by omega)
  have hs : (frm p ++ r).size = 12 + p.size + r.size := by rw [ByteArray.size_append, frm_size]
  have h1 : (frm p ++ r).extract 12 (12 + p.size) = p := by
    rw [x_left (by rw [frm_size]; omega)]
    exact ByteArray.extract_append_eq_right (hd_size p).symm (by rw [hd_size])
  have h2 : (frm p ++ r).extract 0 12 = hd p := by
    rw [x_left (by rw [frm_size]; omega)]
    exact ByteArray.extract_append_eq_left (hd_size p).symm
  rw [cut_last _ (by omega) (by rw [hn]; omega) (by rw [hn]; omega), hn, Int.toNat_natCast, h1, h2, if_pos rfl]
theorem cut_part (p : ByteArray) (hp : p.size ≤ 65536) (k : Nat) (hk : k < 12 + p.size) : cutV ((frm p).extract 0 k) = none := by
  have hs : ((frm p).extract 0 k).size = k := by rw [ByteArray.size_extract, frm_size]; omega
  by_cases h : k < 12
  · exact cut_no1 _ (by omega)
  · have e : ((frm p).extract 0 k).extract 0 4 = lenB p.size := by
      rw [ByteArray.extract_extract, show min (0 + 4) k = 4 by omega]
      have := frm4 p ByteArray.empty
      rw [ByteArray.append_empty] at this; exact this
    exact cut_no3 _ (by rw [num4_of e (by omega)]; omega)
theorem whole_frm (p r : ByteArray) (hp : p.size ≤ 65536) : wholeV (frm p ++ r) = (p :: (wholeV r).1, 12 + p.size + (wholeV r).2) := by
  rw [whole_some (cut_frm p r hp)]
  have : (frm p ++ r).extract (12 + p.size) (frm p ++ r).size = r := ByteArray.extract_append_eq_right (frm_size p).symm (by rw [ByteArray.size_append, frm_size])
  rw [this]
/-- Frames in a row. -/
def row : List ByteArray → ByteArray
  | [] => ByteArray.empty
  | p :: L => frm p ++ row L
theorem row_snoc (L : List ByteArray) (p : ByteArray) : row (L ++ [p]) = row L ++ frm p := by
  induction L with
  | nil => simp [row]
  | cons q L ih => rw [List.cons_append, row, row, ih, ByteArray.append_assoc]
theorem row_app (L M : List ByteArray) : row (L ++ M) = row L ++ row M := by
  induction L with
  | nil => simp [row]
  | cons q L ih => rw [List.cons_append, row, row, ih, ByteArray.append_assoc]
theorem whole_row (L : List ByteArray) (r : ByteArray) (h : ∀ p ∈ L, p.size ≤ 65536) : wholeV (row L ++ r) = (L ++ (wholeV r).1, (row L).size + (wholeV r).2) := by
  induction L with
  | nil => simp [row]
  | cons p L ih =>
    rw [row, ByteArray.append_assoc, whole_frm p _ (h p (by simp)), ih (fun q hq => h q (by simp [hq])), ByteArray.size_append, frm_size]
    simp [Nat.add_assoc]
theorem whole_len : ∀ (f : Nat) (b : ByteArray), (whole f b).1.length * 12 ≤ (whole f b).2 ∧ (whole f b).2 ≤ b.size
  | 0, b => by simp [whole]
  | f + 1, b => by
    unfold whole
    cases hc : cutV b with
    | none => simp
    | some p =>
      have := cut_size hc
      have ih := whole_len f (b.extract (12 + p.size) b.size)
      rw [ByteArray.size_extract] at ih
      simp only [List.length_cons]
      omega
theorem wholeV_len (b : ByteArray) : (wholeV b).1.length * 12 ≤ (wholeV b).2 ∧ (wholeV b).2 ≤ b.size := whole_len _ b
theorem getR_tup (s : ByteArray) (a : Int) : ∃ (p : ByteArray) (n : Int) (b : Bool), getR s a = .tuple #[.string p, .int .i64 n, .bool b] := by
  unfold getR
  split
  · split
    · exact ⟨_, _, _, rfl⟩
    · exact ⟨_, _, _, rfl⟩
  · exact ⟨_, _, _, rfl⟩
/-! The frame of `ab` -/
def mAB : ByteArray := ⟨#[97, 98]⟩
theorem ab_size : mAB.size = 2 := rfl
theorem abf_size : (frm mAB).size = 14 := frm_size mAB
theorem abf4 : (frm mAB).extract 0 4 = ⟨#[0, 0, 0, 2]⟩ := by
  have := frm4 mAB ByteArray.empty
  rw [ByteArray.append_empty] at this
  rw [this]; decide +kernel
theorem abf12 : (frm mAB).extract 12 14 = mAB := ByteArray.extract_append_eq_right (hd_size mAB).symm (by rw [hd_size]; rfl)
theorem byt_ext (s : ByteArray) (i j k : Nat) (h : i + k < j) (hj : j ≤ s.size) : Kw.byt (s.extract i j) k = Kw.byt s (i + k) := by
  have e : (s.extract i j).data.toList[k]? = s.data.toList[i + k]? := by
    rw [ByteArray.data_extract, Array.toList_extract, List.extract_eq_take_drop, List.getElem?_take, if_pos (by omega), List.getElem?_drop]
  have hl : i + k < s.data.toList.length := by have : s.data.toList.length = s.size := by simp
                                               omega
  rw [List.getElem?_eq_getElem hl] at e
  rw [byt_list _ _ _ e, byt_list s (i + k) _ (List.getElem?_eq_getElem hl)]
theorem ab_get0 : getR (frm mAB) 0 = .tuple #[.string mAB, .int .i64 14, .bool true] := by
  have h := getR_some (s := frm mAB) (p := mAB) (k := 0) (Nat.zero_le _) (by
    have := cut_frm mAB ByteArray.empty (by rw [ab_size]; omega)
    rw [ByteArray.append_empty] at this
    rw [ByteArray.extract_zero_size]; exact this)
  exact h
theorem ab_get1 : getR (frm mAB) 1 = .tuple #[.string ⟨#[]⟩, .int .i64 0, .bool false] := by
  refine getR_none (s := frm mAB) (k := 1) (by rw [abf_size]; omega) ?_
  obtain ⟨q, hq⟩ : ∃ q, q = (frm mAB).extract 1 (frm mAB).size := ⟨_, rfl⟩
  rw [← hq]
  have hs : q.size = 13 := by rw [hq, ByteArray.size_extract, abf_size]; omega
  have h4 : (q.extract 0 4).size = 4 := by rw [ByteArray.size_extract]; omega
  have b : ∀ k, k < 3 → Kw.byt (q.extract 0 4) k = Kw.byt ((frm mAB).extract 0 4) (1 + k) := fun k hk => by
    rw [byt_ext _ _ _ _ (by omega) (by omega), byt_ext _ _ _ _ (by omega) (by rw [abf_size]; omega), hq, byt_ext _ _ _ _ (by rw [abf_size]; omega) (Nat.le_refl _)]
    congr 1
    omega
  have b0 := b 0 (by omega); have b1 := b 1 (by omega); have b2 := b 2 (by omega)
  rw [abf4] at b0 b1 b2
  have r3 := bt_range (q.extract 0 4) 3
  refine cut_no3 q ?_
  unfold num4
  rw [get4 _ h4]
  rw [byt_bt] at b0 b1 b2
  show _ < word (bt _ ((0 : Nat) : Int)) (bt _ ((1 : Nat) : Int)) (bt _ ((2 : Nat) : Int)) _
  rw [b0, b1, b2, show Kw.byt ⟨#[0, 0, 0, 2]⟩ (1 + 0) = 0 by decide +kernel, show Kw.byt ⟨#[0, 0, 0, 2]⟩ (1 + 1) = 0 by decide +kernel, show Kw.byt ⟨#[0, 0, 0, 2]⟩ (1 + 2) = 2 by decide +kernel]
  unfold word
  omega
theorem whole_nil : wholeV ByteArray.empty = ([], 0) := whole_none (cut_no1 _ (by decide))
theorem ab_whole2 : wholeV (frm mAB ++ frm mAB) = ([mAB, mAB], 28) := by
  have := whole_frm mAB (frm mAB ++ ByteArray.empty) (by rw [ab_size]; omega)
  rw [whole_frm mAB ByteArray.empty (by rw [ab_size]; omega), ByteArray.append_empty, whole_nil] at this
  exact this
theorem ab_whole1 : wholeV ((frm mAB ++ frm mAB).extract 0 27) = ([mAB], 14) := by
  have e : (frm mAB ++ frm mAB).extract 0 27 = frm mAB ++ (frm mAB).extract 0 13 := by
    rw [ByteArray.extract_append, abf_size, show 0 - 14 = 0 by omega, show 27 - 14 = 13 by omega]
    have e1 : (frm mAB).extract 0 27 = frm mAB := by
      apply ByteArray.ext
      apply Array.toList_inj.1
      have : (frm mAB).data.toList.length = 14 := by have := abf_size; simpa using this
      rw [ByteArray.data_extract, Array.toList_extract, List.extract_eq_take_drop, List.drop_zero, List.take_of_length_le (by omega)]
    rw [e1]
  rw [e, whole_frm mAB _ (by rw [ab_size]; omega), whole_none (cut_part mAB (by rw [ab_size]; omega) 13 (by rw [ab_size]; omega))]; rfl

set_option maxRecDepth 100000 in
set_option maxHeartbeats 4000000 in
theorem texts_c (v1 v2 : Value) (L1 L2 : List ByteArray) (w : World) (S1 : Strs w v1 L1) (S2 : Strs w v2 L2) (hm : L1.length ≤ 9223372036854775806) : Calls Tryd.prog 23 #[v1, v2] w fun e w' => e = .returned (.bool (decide (L1 = L2))) ∧ Below w.heap.size w w' := by
  have HB : Below w.heap.size w w := Below.refl _ _
  obtain ⟨a1, cap1, rfl, h1⟩ := S1
  obtain ⟨a2, cap2, rfl, h2⟩ := S2
  refine Kw.enter Tryd.func23 rfl Tryd.ntmps23 rfl rfl ?_
  refine Kw.WC_seq (fun K1 hK1 => ?_)
  refine Kw.WC_region [some 4] rfl ?_
  refine Kw.WL_v rfl rfl rfl (Kw.R_assign rfl) ?_
  refine Kw.WL_nil ?_
  refine hK1 _ _ ?_; clear hK1 K1
  refine Kw.WC_seq (fun K2 hK2 => ?_)
  refine Kw.WC_seq (fun K3 hK3 => ?_)
  refine Kw.WC_region [some 6, some 7, some 8, some 9, some 10] rfl ?_
  refine Kw.WL_v rfl rfl rfl (Kw.R_move rfl) ?_
  refine Kw.WL_v rfl rfl rfl (Kw.R_lenl (n := L1.length) Tryd.underlying38 rfl) ?_
  refine Kw.WL_v rfl rfl rfl (Kw.R_move rfl) ?_
  refine Kw.WL_v rfl rfl rfl (Kw.R_lenl (n := L2.length) Tryd.underlying38 rfl) ?_
  by_cases c4 : (L1.length : Int) = (L2.length : Int)
  ·
    refine Kw.WL_v rfl rfl rfl (Kw.R_nei (z := false) rfl rfl (decide_eq_true c4)) ?_
    have hlen : L1.length = L2.length := by omega
    refine Kw.WL_nil ?_
    refine hK3 _ _ ?_; clear hK3 K3
    refine Kw.WC_false rfl ?_
    refine Kw.WC_skip ?_
    refine hK2 _ _ ?_; clear hK2 K2
    refine Kw.WC_sub (l' := [(0, .slice a1 L1.length cap1), (1, .slice a2 L2.length cap2)]) (Kw.Sub.cons rfl (Kw.Sub.cons rfl Kw.Sub.nil)) ?_
    refine Kw.WC_seq (fun K5 hK5 => ?_)
    refine Kw.WC_seq (fun K6 hK6 => ?_)
    refine Kw.WC_region [some 5] rfl ?_
    refine Kw.WL_v rfl rfl rfl (Kw.R_assign rfl) ?_
    refine Kw.WL_nil ?_
    refine hK6 _ _ ?_; clear hK6 K6
    refine Kw.WC_block ?_
    refine Kw.WC_loop (ι := Nat) (fun (i : Nat) (ww : World) => (i ≤ L1.length ∧ L1.take i = L2.take i) ∧ Below w.heap.size w ww) (fun (i : Nat) => [(0, .slice a1 L1.length cap1), (1, .slice a2 L2.length cap2), (5, .int .i64 (i : Int))]) (fun (i : Nat) => L1.length - i) 0 ⟨⟨Nat.zero_le _, rfl⟩, HB⟩ (Kw.Sub.cons rfl (Kw.Sub.cons rfl (Kw.Sub.cons rfl Kw.Sub.nil))) ?_
    clear HB
    rintro i w7 ⟨⟨hi, he⟩, HB⟩
    refine Kw.WC_seq (fun K8 hK8 => ?_)
    refine Kw.WC_seq (fun K9 hK9 => ?_)
    refine Kw.WC_region [some 11, some 12, some 13, some 14] rfl ?_
    refine Kw.WL_v rfl rfl rfl (Kw.R_move rfl) ?_
    refine Kw.WL_v rfl rfl rfl (Kw.R_move rfl) ?_
    refine Kw.WL_v rfl rfl rfl (Kw.R_lenl (n := L1.length) Tryd.underlying38 rfl) ?_
    by_cases c10 : (i : Int) < (L1.length : Int)
    ·
      refine Kw.WL_v rfl rfl rfl (Kw.R_lss (z := true) rfl rfl (decide_eq_true c10)) ?_
      have c_lt : i < L1.length := by omega
      refine Kw.WL_nil ?_
      refine hK9 _ _ ?_; clear hK9 K9
      refine Kw.WC_true rfl ?_
      refine Kw.WC_skip ?_
      refine hK8 _ _ ?_; clear hK8 K8
      refine Kw.WC_seq (fun K11 hK11 => ?_)
      refine Kw.WC_block ?_
      refine Kw.WC_seq (fun K12 hK12 => ?_)
      refine Kw.WC_still 8 [some 17, some 18, some 19, some 20, some 21, some 22, some 23, some 24, some 25] rfl (by kernel_rfl) (by kernel_rfl) ?_
      simp only [List.take_succ_cons, List.take_zero, List.drop_succ_cons, List.drop_zero]
      obtain ⟨w13, hww13⟩ : ∃ x : World, x = Go.World.drew w7 := ⟨_, rfl⟩
      rw [← hww13]
      replace HB : Below w.heap.size w w13 := by rw [hww13]; exact HB.drew
      clear hww13
      rcases h1 with rfl | ⟨g1, o1, rfl, hc1⟩
      · exact absurd c_lt (Nat.not_lt_zero _)
      rcases h2 with rfl | ⟨g2, o2, rfl, hc2⟩
      · exfalso; simp only [List.length_nil] at hlen; omega
      have lt1 := block_lt_of_cell (hc1 i (by omega)); have lt2 := block_lt_of_cell (hc2 i (by omega))
      refine Kw.WS_v rfl rfl rfl (Kw.R_move rfl) ?_
      refine Kw.WS_v rfl rfl rfl (Kw.R_move rfl) ?_
      refine Kw.WS_v rfl rfl rfl (Kw.R_indexAddrS (i := i) (b := g1) (o := o1) (o' := o1 + i) rfl rfl Tryd.underlying38 F.sz9 (by omega) (by omega)) ?_
      obtain ⟨y1, hy1⟩ : ∃ y, y = L1[i]'(by omega) := ⟨_, rfl⟩
      refine Kw.WS_v rfl rfl rfl (Kw.R_loadc (v := .string y1) rfl Tryd.underlying9 rfl (by rw [hy1]; exact (HB.cell (p := ⟨g1, o1 + i, none⟩) lt1).trans (hc1 i (by omega)))) ?_
      refine Kw.WS_v rfl rfl rfl (Kw.R_move rfl) ?_
      refine Kw.WS_v rfl rfl rfl (Kw.R_move rfl) ?_
      refine Kw.WS_v rfl rfl rfl (Kw.R_indexAddrS (i := i) (b := g2) (o := o2) (o' := o2 + i) rfl rfl Tryd.underlying38 F.sz9 (by omega) (by omega)) ?_
      obtain ⟨y2, hy2⟩ : ∃ y, y = L2[i]'(by omega) := ⟨_, rfl⟩
      refine Kw.WS_v rfl rfl rfl (Kw.R_loadc (v := .string y2) rfl Tryd.underlying9 rfl (by rw [hy2]; exact (HB.cell (p := ⟨g2, o2 + i, none⟩) lt2).trans (hc2 i (by omega)))) ?_
      refine Kw.WS_nil ?_
      by_cases c14 : y1 = y2
      ·
        refine Kw.WL_v rfl rfl rfl (Kw.R_nes (z := false) rfl rfl (decide_eq_true c14)) ?_
        have hyy : y1 = y2 := by assumption
        refine Kw.WL_nil ?_
        refine hK12 _ _ ?_; clear hK12 K12
        refine Kw.WC_sub (l' := [(0, .slice (some ⟨g1, o1, none⟩) L1.length cap1), (1, .slice (some ⟨g2, o2, none⟩) L2.length cap2), (5, .int .i64 (i : Int)), (25, .bool false)]) (Kw.Sub.cons rfl (Kw.Sub.cons rfl (Kw.Sub.cons rfl (Kw.Sub.cons rfl Kw.Sub.nil)))) ?_
        refine Kw.WC_false rfl ?_
        refine Kw.WC_skip ?_
        refine Kw.QN_block ?_
        refine hK11 _ _ ?_; clear hK11 K11
        refine Kw.WC_region [some 15, some 16, some 5] rfl ?_
        refine Kw.WL_v rfl rfl rfl (Kw.R_move rfl) ?_
        refine Kw.WL_v rfl rfl rfl (Kw.R_add (c := ((i + 1 : Nat) : Int)) rfl rfl (by rw [Kw.wrap_i64 (by omega)]; omega)) ?_
        refine Kw.WL_v rfl rfl rfl (Kw.R_assign rfl) ?_
        refine Kw.WL_nil ?_
        refine Kw.QN_round (i + 1) ⟨⟨by omega, by rw [List.take_succ_eq_append_getElem (by omega), List.take_succ_eq_append_getElem (by omega), he, ← hy1, ← hy2, hyy]⟩, HB⟩ (by omega) (Kw.Sub.cons rfl (Kw.Sub.cons rfl (Kw.Sub.cons rfl Kw.Sub.nil)))
      ·
        refine Kw.WL_v rfl rfl rfl (Kw.R_nes (z := true) rfl rfl (decide_eq_false c14)) ?_
        refine Kw.WL_nil ?_
        refine hK12 _ _ ?_; clear hK12 K12
        refine Kw.WC_sub (l' := [(0, .slice (some ⟨g1, o1, none⟩) L1.length cap1), (1, .slice (some ⟨g2, o2, none⟩) L2.length cap2), (5, .int .i64 (i : Int)), (25, .bool true)]) (Kw.Sub.cons rfl (Kw.Sub.cons rfl (Kw.Sub.cons rfl (Kw.Sub.cons rfl Kw.Sub.nil)))) ?_
        refine Kw.WC_true rfl ?_
        refine Kw.WC_seq (fun K15 hK15 => ?_)
        refine Kw.WC_region [some 4] rfl ?_
        refine Kw.WL_v rfl rfl rfl (Kw.R_assign rfl) ?_
        refine Kw.WL_nil ?_
        refine hK15 _ _ ?_; clear hK15 K15
        refine Kw.WC_ret ?_
        refine Kw.QR_block ?_
        refine Kw.QR_then ?_; clear hK11 K11
        refine Kw.QR_then ?_
        refine Kw.QR_block ?_
        refine Kw.QR_then ?_; clear hK5 K5
        have hE : ¬ L1 = L2 := by
          rintro rfl
          exact absurd (hy1.trans hy2.symm) (by assumption)
        rw [decide_eq_false hE]
        exact Kw.post_ret1 rfl rfl ⟨rfl, HB⟩
    ·
      refine Kw.WL_v rfl rfl rfl (Kw.R_lss (z := false) rfl rfl (decide_eq_false c10)) ?_
      refine Kw.WL_nil ?_
      refine hK9 _ _ ?_; clear hK9 K9
      refine Kw.WC_false rfl ?_
      refine Kw.WC_exit ?_
      refine Kw.QE_then ?_; clear hK8 K8
      refine Kw.QE_then ?_
      refine Kw.QE_here ?_
      refine hK5 _ _ ?_; clear hK5 K5
      refine Kw.WC_sub (l' := []) Kw.Sub.nil ?_
      refine Kw.WC_seq (fun K16 hK16 => ?_)
      refine Kw.WC_region [some 4] rfl ?_
      refine Kw.WL_v rfl rfl rfl (Kw.R_assign rfl) ?_
      refine Kw.WL_nil ?_
      refine hK16 _ _ ?_; clear hK16 K16
      refine Kw.WC_ret ?_
      have hE : L1 = L2 := by
        rw [List.take_of_length_le (by omega), List.take_of_length_le (by omega)] at he; exact he
      rw [decide_eq_true hE]
      exact Kw.post_ret1 rfl rfl ⟨rfl, HB⟩
  ·
    refine Kw.WL_v rfl rfl rfl (Kw.R_nei (z := true) rfl rfl (decide_eq_false c4)) ?_
    refine Kw.WL_nil ?_
    refine hK3 _ _ ?_; clear hK3 K3
    refine Kw.WC_true rfl ?_
    refine Kw.WC_seq (fun K17 hK17 => ?_)
    refine Kw.WC_region [some 4] rfl ?_
    refine Kw.WL_v rfl rfl rfl (Kw.R_assign rfl) ?_
    refine Kw.WL_nil ?_
    refine hK17 _ _ ?_; clear hK17 K17
    refine Kw.WC_sub (l' := [(4, .bool false)]) (Kw.Sub.cons rfl Kw.Sub.nil) ?_
    refine Kw.WC_ret ?_
    refine Kw.QR_then ?_; clear hK2 K2
    have hE : ¬ L1 = L2 := by
      rintro rfl
      omega
    rw [decide_eq_false hE]
    exact Kw.post_ret1 rfl rfl ⟨rfl, HB⟩

set_option maxRecDepth 100000 in
set_option maxHeartbeats 4000000 in
theorem stands_c (s : ByteArray) (hs : s.size ≤ 1000000) (a : Int) (ha : -9223372036854775808 ≤ a ∧ a ≤ 9223372036854775807) (w : World) (h0 : Tab w 0 H8) (h1 : Tab w 1 K64) : Calls Tryd.prog 20 #[.string s, .int .i64 a] w fun e w' => e = .returned (.bool true) ∧ Below w.heap.size w w' := by
  have HB : Below w.heap.size w w := Below.refl _ _
  have Fg : ∀ (q : ByteArray), q.size ≤ 1000000 → ∀ (a : Int), -9223372036854775808 ≤ a ∧ a ≤ 9223372036854775807 → ∀ (r : Value), getR q a = r → ∀ (w' : World), Below w.heap.size w w' → Calls Tryd.prog 33 #[.string q, .int .i64 a] w' fun e w2 => e = .returned r ∧ Below w'.heap.size w' w2 := fun q hs a ha r hr w' b => by rw [← hr]; exact fget_c q hs a ha w' (tab_below h0 b) (tab_below h1 b)
  have Fw : ∀ (q : ByteArray), q.size ≤ 1000000 → ∀ (L : List ByteArray) (n : Nat), wholeV q = (L, n) → ∀ (w' : World), Below w.heap.size w w' → Calls Tryd.prog 22 #[.string q] w' (Kw.Back fun v w2 => (∃ vl, v = .tuple #[vl, .int .i64 (n : Int)] ∧ Kw.Own w2 w'.heap.size 9 1 vl L.length (strsL L)) ∧ Below w'.heap.size w' w2) := fun q hs L n hq w' b => by
    have k := fwhole_c q hs w' (tab_below h0 b) (tab_below h1 b)
    rw [hq] at k; exact k
  clear h0 h1
  obtain ⟨p, n, bb, hg⟩ := getR_tup s a
  refine Kw.enter Tryd.func20 rfl Tryd.ntmps20 rfl rfl ?_
  refine Kw.WC_seq (fun K1 hK1 => ?_)
  refine Kw.WC_region [some 4] rfl ?_
  refine Kw.WL_v rfl rfl rfl (Kw.R_assign rfl) ?_
  refine Kw.WL_nil ?_
  refine hK1 _ _ ?_; clear hK1 K1
  refine Kw.WC_seq (fun K2 hK2 => ?_)
  refine Kw.WC_region [some 16, some 17, some 18, some 15, some 19, some 20, some 21, some 5, some 6, some 7] rfl ?_
  refine Kw.WL_v rfl rfl rfl (Kw.R_move rfl) ?_
  refine Kw.WL_v rfl rfl rfl (Kw.R_move rfl) ?_
  refine Kw.WL_callc rfl rfl rfl rfl F.cl33 rfl (Fg s hs a ha _ hg _ HB) ?_; intro w3 bw3
  replace HB := Kw.Below.then HB (Nat.le_refl _) bw3
  clear bw3
  refine Kw.WL_v rfl rfl rfl (Kw.R_move rfl) ?_
  refine Kw.WL_v rfl rfl rfl (Kw.R_extract (v := .string p) rfl rfl) ?_
  refine Kw.WL_v rfl rfl rfl (Kw.R_extract (v := .int .i64 n) rfl rfl) ?_
  refine Kw.WL_v rfl rfl rfl (Kw.R_extract (v := .bool bb) rfl rfl) ?_
  refine Kw.WL_v rfl rfl rfl (Kw.R_assign rfl) ?_
  refine Kw.WL_v rfl rfl rfl (Kw.R_assign rfl) ?_
  refine Kw.WL_v rfl rfl rfl (Kw.R_assign rfl) ?_
  refine Kw.WL_nil ?_
  refine hK2 _ _ ?_; clear hK2 K2
  refine Kw.WC_sub (l' := [(0, .string s), (1, .int .i64 a), (5, .string p), (6, .int .i64 n), (7, .bool bb)]) (Kw.Sub.cons rfl (Kw.Sub.cons rfl (Kw.Sub.cons rfl (Kw.Sub.cons rfl (Kw.Sub.cons rfl Kw.Sub.nil))))) ?_
  refine Kw.WC_seq (fun K4 hK4 => ?_)
  refine Kw.WC_region [some 23, some 24, some 25, some 22, some 26, some 27, some 28, some 8, some 9, some 10] rfl ?_
  refine Kw.WL_v rfl rfl rfl (Kw.R_move rfl) ?_
  refine Kw.WL_v rfl rfl rfl (Kw.R_move rfl) ?_
  refine Kw.WL_callc rfl rfl rfl rfl F.cl36 rfl (by have k := refget_c s hs a ha w3; rw [hg] at k; exact k) ?_; intro w5 bw5
  replace HB := Kw.Below.then HB (Nat.le_refl _) bw5
  clear bw5
  refine Kw.WL_v rfl rfl rfl (Kw.R_move rfl) ?_
  refine Kw.WL_v rfl rfl rfl (Kw.R_extract (v := .string p) rfl rfl) ?_
  refine Kw.WL_v rfl rfl rfl (Kw.R_extract (v := .int .i64 n) rfl rfl) ?_
  refine Kw.WL_v rfl rfl rfl (Kw.R_extract (v := .bool bb) rfl rfl) ?_
  refine Kw.WL_v rfl rfl rfl (Kw.R_assign rfl) ?_
  refine Kw.WL_v rfl rfl rfl (Kw.R_assign rfl) ?_
  refine Kw.WL_v rfl rfl rfl (Kw.R_assign rfl) ?_
  refine Kw.WL_nil ?_
  refine hK4 _ _ ?_; clear hK4 K4
  refine Kw.WC_sub (l' := [(0, .string s), (5, .string p), (6, .int .i64 n), (7, .bool bb), (8, .string p), (9, .int .i64 n), (10, .bool bb)]) (Kw.Sub.cons rfl (Kw.Sub.cons rfl (Kw.Sub.cons rfl (Kw.Sub.cons rfl (Kw.Sub.cons rfl (Kw.Sub.cons rfl (Kw.Sub.cons rfl Kw.Sub.nil))))))) ?_
  refine Kw.WC_seq (fun K6 hK6 => ?_)
  refine Kw.WC_region [some 30, some 31, some 29, some 32, some 33, some 11, some 12] rfl ?_
  refine Kw.WL_v rfl rfl rfl (Kw.R_move rfl) ?_
  refine Kw.WL_call rfl rfl rfl rfl F.cl22 rfl (Fw s hs (wholeV s).1 (wholeV s).2 rfl _ HB) ?_; rintro _ w7 ⟨⟨vl, rfl, O_vl⟩, bw7⟩
  replace O_vl := O_vl.mono HB.size
  replace HB := Kw.Below.then HB (Nat.le_refl _) bw7; clear bw7
  refine Kw.WL_v rfl rfl rfl (Kw.R_move rfl) ?_
  refine Kw.WL_v rfl rfl rfl (Kw.R_extract (v := vl) rfl rfl) ?_
  refine Kw.WL_v rfl rfl rfl (Kw.R_extract (v := .int .i64 ((wholeV s).2 : Int)) rfl rfl) ?_
  refine Kw.WL_v rfl rfl rfl (Kw.R_assign rfl) ?_
  refine Kw.WL_v rfl rfl rfl (Kw.R_assign rfl) ?_
  refine Kw.WL_nil ?_
  refine hK6 _ _ ?_; clear hK6 K6
  refine Kw.WC_seq (fun K8 hK8 => ?_)
  refine Kw.WC_region [some 35, some 36, some 34, some 37, some 38, some 13, some 14] rfl ?_
  refine Kw.WL_v rfl rfl rfl (Kw.R_move rfl) ?_
  refine Kw.WL_call rfl rfl rfl rfl F.cl37 rfl (refwhole_c s hs _) ?_; rintro _ w9 ⟨⟨vm, rfl, O_vm⟩, bw9⟩
  replace O_vm := O_vm.mono HB.size
  replace O_vl := O_vl.call bw9
  replace HB := Kw.Below.then HB (Nat.le_refl _) bw9; clear bw9
  refine Kw.WL_v rfl rfl rfl (Kw.R_move rfl) ?_
  refine Kw.WL_v rfl rfl rfl (Kw.R_extract (v := vm) rfl rfl) ?_
  refine Kw.WL_v rfl rfl rfl (Kw.R_extract (v := .int .i64 ((wholeV s).2 : Int)) rfl rfl) ?_
  refine Kw.WL_v rfl rfl rfl (Kw.R_assign rfl) ?_
  refine Kw.WL_v rfl rfl rfl (Kw.R_assign rfl) ?_
  refine Kw.WL_nil ?_
  refine hK8 _ _ ?_; clear hK8 K8
  refine Kw.WC_sub (l' := [(5, .string p), (6, .int .i64 n), (7, .bool bb), (8, .string p), (9, .int .i64 n), (10, .bool bb), (11, vl), (12, .int .i64 ((wholeV s).2 : Int)), (13, vm), (14, .int .i64 ((wholeV s).2 : Int))]) (Kw.Sub.cons rfl (Kw.Sub.cons rfl (Kw.Sub.cons rfl (Kw.Sub.cons rfl (Kw.Sub.cons rfl (Kw.Sub.cons rfl (Kw.Sub.cons rfl (Kw.Sub.cons rfl (Kw.Sub.cons rfl (Kw.Sub.cons rfl Kw.Sub.nil)))))))))) ?_
  refine Kw.WC_seq (fun K10 hK10 => ?_)
  refine Kw.WC_region [some 39, some 40, some 41, some 42, some 43, some 44, some 45, some 46, some 47, some 48, some 49, some 50, some 51, some 52, some 53, some 54, some 55, some 56, some 57, some 58, some 59, some 60, some 61, some 4] rfl ?_
  refine Kw.WL_v rfl rfl rfl (Kw.R_move rfl) ?_
  refine Kw.WL_v rfl rfl rfl (Kw.R_move rfl) ?_
  refine Kw.WL_v rfl rfl rfl (Kw.R_eqs (z := true) rfl rfl (decide_eq_true rfl)) ?_
  refine Kw.WL_v rfl rfl rfl (Kw.R_move rfl) ?_
  refine Kw.WL_v rfl rfl rfl (Kw.R_move rfl) ?_
  refine Kw.WL_v rfl rfl rfl (Kw.R_move rfl) ?_
  refine Kw.WL_v rfl rfl rfl (Kw.R_eqi (z := true) rfl rfl (decide_eq_true rfl)) ?_
  refine Kw.WL_v rfl rfl rfl (Kw.R_pickt rfl rfl) ?_
  refine Kw.WL_v rfl rfl rfl (Kw.R_move rfl) ?_
  refine Kw.WL_v rfl rfl rfl (Kw.R_move rfl) ?_
  refine Kw.WL_v rfl rfl rfl (Kw.R_move rfl) ?_
  refine Kw.WL_v rfl rfl rfl (Kw.R_eqb (z := true) rfl rfl Tryd.underlying4 (by cases bb <;> rfl)) ?_
  refine Kw.WL_v rfl rfl rfl (Kw.R_pickt rfl rfl) ?_
  refine Kw.WL_v rfl rfl rfl (Kw.R_move rfl) ?_
  refine Kw.WL_v rfl rfl rfl (Kw.R_move rfl) ?_
  refine Kw.WL_v rfl rfl rfl (Kw.R_move rfl) ?_
  refine Kw.WL_callc rfl rfl rfl rfl F.cl23 rfl (by have k := texts_c vl vm _ _ w9 (Strs.own O_vl) (Strs.own O_vm) (by have := wholeV_len s; omega); rw [decide_eq_true rfl] at k; exact k) ?_; intro w12 bw12
  replace HB := Kw.Below.then HB (Nat.le_refl _) bw12
  replace O_vl := O_vl.call bw12
  replace O_vm := O_vm.call bw12
  clear bw12
  refine Kw.WL_v rfl rfl rfl (Kw.R_pickt rfl rfl) ?_
  refine Kw.WL_v rfl rfl rfl (Kw.R_move rfl) ?_
  refine Kw.WL_v rfl rfl rfl (Kw.R_move rfl) ?_
  refine Kw.WL_v rfl rfl rfl (Kw.R_move rfl) ?_
  refine Kw.WL_v rfl rfl rfl (Kw.R_eqi (z := true) rfl rfl (decide_eq_true rfl)) ?_
  refine Kw.WL_v rfl rfl rfl (Kw.R_pickt rfl rfl) ?_
  refine Kw.WL_v rfl rfl rfl (Kw.R_assign rfl) ?_
  refine Kw.WL_nil ?_
  refine hK10 _ _ ?_; clear hK10 K10
  refine Kw.WC_sub (l' := [(4, .bool true)]) (Kw.Sub.cons rfl Kw.Sub.nil) ?_
  refine Kw.WC_ret ?_
  exact Kw.post_ret1 rfl rfl ⟨rfl, HB⟩

set_option maxRecDepth 100000 in
set_option maxHeartbeats 4000000 in
theorem framed_c (w : World) (h0 : Tab w 0 H8) (h1 : Tab w 1 K64) : Calls Tryd.prog 17 #[] w fun e w' => e = .returned (.bool true) ∧ Below w.heap.size w w' := by
  have HB : Below w.heap.size w w := Below.refl _ _
  have Fg : ∀ (q : ByteArray), q.size ≤ 1000000 → ∀ (a : Int), -9223372036854775808 ≤ a ∧ a ≤ 9223372036854775807 → ∀ (r : Value), getR q a = r → ∀ (w' : World), Below w.heap.size w w' → Calls Tryd.prog 33 #[.string q, .int .i64 a] w' fun e w2 => e = .returned r ∧ Below w'.heap.size w' w2 := fun q hs a ha r hr w' b => by rw [← hr]; exact fget_c q hs a ha w' (tab_below h0 b) (tab_below h1 b)
  have Fw : ∀ (q : ByteArray), q.size ≤ 1000000 → ∀ (L : List ByteArray) (n : Nat), wholeV q = (L, n) → ∀ (w' : World), Below w.heap.size w w' → Calls Tryd.prog 22 #[.string q] w' (Kw.Back fun v w2 => (∃ vl, v = .tuple #[vl, .int .i64 (n : Int)] ∧ Kw.Own w2 w'.heap.size 9 1 vl L.length (strsL L)) ∧ Below w'.heap.size w' w2) := fun q hs L n hq w' b => by
    have k := fwhole_c q hs w' (tab_below h0 b) (tab_below h1 b)
    rw [hq] at k; exact k
  have Fp : ∀ (q : ByteArray), q.size ≤ 65536 → ∀ (w' : World), Below w.heap.size w w' → Calls Tryd.prog 18 #[.string q] w' fun e w2 => e = .returned (.tuple #[.string (frm q), .int .i64 0]) ∧ Below w'.heap.size w' w2 := fun q hs w' b => fput_c q hs w' (tab_below h0 b) (tab_below h1 b)
  clear h0 h1
  refine Kw.enter Tryd.func17 rfl Tryd.ntmps17 rfl rfl ?_
  refine Kw.WC_seq (fun K1 hK1 => ?_)
  refine Kw.WC_region [some 0] rfl ?_
  refine Kw.WL_v rfl rfl rfl (Kw.R_assign rfl) ?_
  refine Kw.WL_nil ?_
  refine hK1 _ _ ?_; clear hK1 K1
  refine Kw.WC_seq (fun K2 hK2 => ?_)
  refine Kw.WC_region [some 14, some 13, some 15, some 16, some 1, some 2] rfl ?_
  refine Kw.WL_callc rfl rfl rfl rfl F.cl18 rfl (Fp mAB (by decide) _ HB) ?_; intro w3 bw3
  replace HB := Kw.Below.then HB (Nat.le_refl _) bw3
  clear bw3
  have z14 : (frm mAB).size = 14 := abf_size
  refine Kw.WL_v rfl rfl rfl (Kw.R_move rfl) ?_
  refine Kw.WL_v rfl rfl rfl (Kw.R_extract (v := .string (frm mAB)) rfl rfl) ?_
  refine Kw.WL_v rfl rfl rfl (Kw.R_extract (v := .int .i64 0) rfl rfl) ?_
  refine Kw.WL_v rfl rfl rfl (Kw.R_assign rfl) ?_
  refine Kw.WL_v rfl rfl rfl (Kw.R_assign rfl) ?_
  refine Kw.WL_nil ?_
  refine hK2 _ _ ?_; clear hK2 K2
  refine Kw.WC_seq (fun K4 hK4 => ?_)
  refine Kw.WC_seq (fun K5 hK5 => ?_)
  refine Kw.WC_region [some 17, some 18, some 19, some 20, some 21, some 22, some 23, some 24, some 25, some 26, some 27, some 28, some 29, some 30, some 31, some 32, some 33] rfl ?_
  refine Kw.WL_v rfl rfl rfl (Kw.R_move rfl) ?_
  refine Kw.WL_v rfl rfl rfl (Kw.R_nei (z := false) rfl rfl (decide_eq_true rfl)) ?_
  refine Kw.WL_v rfl rfl rfl (Kw.R_move rfl) ?_
  refine Kw.WL_v rfl rfl rfl (Kw.R_move rfl) ?_
  refine Kw.WL_v rfl rfl rfl (Kw.R_lens Tryd.underlying9 rfl) ?_
  refine Kw.WL_v rfl rfl rfl (Kw.R_nei (z := false) rfl rfl (decide_eq_true (by omega))) ?_
  refine Kw.WL_v rfl rfl rfl (Kw.R_pickf rfl rfl) ?_
  refine Kw.WL_v rfl rfl rfl (Kw.R_move rfl) ?_
  refine Kw.WL_v rfl rfl rfl (Kw.R_move rfl) ?_
  refine Kw.WL_v rfl rfl rfl (Kw.R_slices (i := 0) (j := 4) (r := ⟨#[0, 0, 0, 2]⟩) Tryd.underlying9 rfl rfl ⟨_, rfl⟩ (by omega) (by omega) (abf4)) ?_
  refine Kw.WL_v rfl rfl rfl (Kw.R_nes (z := false) rfl rfl (decide_eq_true rfl)) ?_
  refine Kw.WL_v rfl rfl rfl (Kw.R_pickf rfl rfl) ?_
  refine Kw.WL_v rfl rfl rfl (Kw.R_move rfl) ?_
  refine Kw.WL_v rfl rfl rfl (Kw.R_move rfl) ?_
  refine Kw.WL_v rfl rfl rfl (Kw.R_slices (i := 12) (j := (frm mAB).size) (r := mAB) Tryd.underlying9 rfl ⟨_, rfl⟩ rfl (by omega) (by omega) (by rw [abf_size]; exact abf12)) ?_
  refine Kw.WL_v rfl rfl rfl (Kw.R_nes (z := false) rfl rfl (decide_eq_true rfl)) ?_
  refine Kw.WL_v rfl rfl rfl (Kw.R_pickf rfl rfl) ?_
  refine Kw.WL_nil ?_
  refine hK5 _ _ ?_; clear hK5 K5
  refine Kw.WC_sub (l' := [(1, .string (frm mAB)), (33, .bool false)]) (Kw.Sub.cons rfl (Kw.Sub.cons rfl Kw.Sub.nil)) ?_
  refine Kw.WC_false rfl ?_
  refine Kw.WC_skip ?_
  refine hK4 _ _ ?_; clear hK4 K4
  refine Kw.WC_seq (fun K6 hK6 => ?_)
  refine Kw.WC_region [some 35, some 36, some 34, some 37, some 38, some 39, some 3, some 4, some 5] rfl ?_
  refine Kw.WL_v rfl rfl rfl (Kw.R_move rfl) ?_
  refine Kw.WL_callc rfl rfl rfl rfl F.cl33 rfl (Fg (frm mAB) (by omega) 0 (by omega) _ ab_get0 _ HB) ?_; intro w7 bw7
  replace HB := Kw.Below.then HB (Nat.le_refl _) bw7
  clear bw7
  refine Kw.WL_v rfl rfl rfl (Kw.R_move rfl) ?_
  refine Kw.WL_v rfl rfl rfl (Kw.R_extract (v := .string mAB) rfl rfl) ?_
  refine Kw.WL_v rfl rfl rfl (Kw.R_extract (v := .int .i64 14) rfl rfl) ?_
  refine Kw.WL_v rfl rfl rfl (Kw.R_extract (v := .bool true) rfl rfl) ?_
  refine Kw.WL_v rfl rfl rfl (Kw.R_assign rfl) ?_
  refine Kw.WL_v rfl rfl rfl (Kw.R_assign rfl) ?_
  refine Kw.WL_v rfl rfl rfl (Kw.R_assign rfl) ?_
  refine Kw.WL_nil ?_
  refine hK6 _ _ ?_; clear hK6 K6
  refine Kw.WC_sub (l' := [(1, .string (frm mAB)), (3, .string mAB), (4, .int .i64 14), (5, .bool true)]) (Kw.Sub.cons rfl (Kw.Sub.cons rfl (Kw.Sub.cons rfl (Kw.Sub.cons rfl Kw.Sub.nil)))) ?_
  refine Kw.WC_seq (fun K8 hK8 => ?_)
  refine Kw.WC_region [some 41, some 42, some 40, some 43, some 44, some 45, some 6, some 7, some 8] rfl ?_
  refine Kw.WL_v rfl rfl rfl (Kw.R_move rfl) ?_
  refine Kw.WL_callc rfl rfl rfl rfl F.cl33 rfl (Fg (frm mAB) (by omega) 1 (by omega) _ ab_get1 _ HB) ?_; intro w9 bw9
  replace HB := Kw.Below.then HB (Nat.le_refl _) bw9
  clear bw9
  refine Kw.WL_v rfl rfl rfl (Kw.R_move rfl) ?_
  refine Kw.WL_v rfl rfl rfl (Kw.R_extract (v := .string ⟨#[]⟩) rfl rfl) ?_
  refine Kw.WL_v rfl rfl rfl (Kw.R_extract (v := .int .i64 0) rfl rfl) ?_
  refine Kw.WL_v rfl rfl rfl (Kw.R_extract (v := .bool false) rfl rfl) ?_
  refine Kw.WL_v rfl rfl rfl (Kw.R_assign rfl) ?_
  refine Kw.WL_v rfl rfl rfl (Kw.R_assign rfl) ?_
  refine Kw.WL_v rfl rfl rfl (Kw.R_assign rfl) ?_
  refine Kw.WL_nil ?_
  refine hK8 _ _ ?_; clear hK8 K8
  refine Kw.WC_sub (l' := [(1, .string (frm mAB)), (3, .string mAB), (4, .int .i64 14), (5, .bool true), (6, .string ⟨#[]⟩), (7, .int .i64 0), (8, .bool false)]) (Kw.Sub.cons rfl (Kw.Sub.cons rfl (Kw.Sub.cons rfl (Kw.Sub.cons rfl (Kw.Sub.cons rfl (Kw.Sub.cons rfl (Kw.Sub.cons rfl Kw.Sub.nil))))))) ?_
  refine Kw.WC_seq (fun K10 hK10 => ?_)
  refine Kw.WC_region [some 47, some 48, some 49, some 50, some 46, some 51, some 52, some 9, some 10] rfl ?_
  refine Kw.WL_v rfl rfl rfl (Kw.R_move rfl) ?_
  refine Kw.WL_v rfl rfl rfl (Kw.R_move rfl) ?_
  refine Kw.WL_v rfl rfl rfl (Kw.R_adds (r := (frm mAB ++ frm mAB)) rfl rfl (by omega) (rfl)) ?_
  refine Kw.WL_call rfl rfl rfl rfl F.cl22 rfl (Fw (frm mAB ++ frm mAB) (by rw [ByteArray.size_append]; omega) _ _ ab_whole2 _ HB) ?_; rintro _ w11 ⟨⟨vl, rfl, O_vl⟩, bw11⟩
  replace O_vl := O_vl.mono HB.size
  replace HB := Kw.Below.then HB (Nat.le_refl _) bw11; clear bw11
  refine Kw.WL_v rfl rfl rfl (Kw.R_move rfl) ?_
  refine Kw.WL_v rfl rfl rfl (Kw.R_extract (v := vl) rfl rfl) ?_
  refine Kw.WL_v rfl rfl rfl (Kw.R_extract (v := .int .i64 ((28 : Nat) : Int)) rfl rfl) ?_
  refine Kw.WL_v rfl rfl rfl (Kw.R_assign rfl) ?_
  refine Kw.WL_v rfl rfl rfl (Kw.R_assign rfl) ?_
  refine Kw.WL_nil ?_
  refine hK10 _ _ ?_; clear hK10 K10
  refine Kw.WC_sub (l' := [(1, .string (frm mAB)), (3, .string mAB), (4, .int .i64 14), (5, .bool true), (6, .string ⟨#[]⟩), (7, .int .i64 0), (8, .bool false), (9, vl), (10, .int .i64 ((28 : Nat) : Int))]) (Kw.Sub.cons rfl (Kw.Sub.cons rfl (Kw.Sub.cons rfl (Kw.Sub.cons rfl (Kw.Sub.cons rfl (Kw.Sub.cons rfl (Kw.Sub.cons rfl (Kw.Sub.cons rfl (Kw.Sub.cons rfl Kw.Sub.nil))))))))) ?_
  refine Kw.WC_seq (fun K12 hK12 => ?_)
  refine Kw.WC_region [some 54, some 55, some 56, some 57, some 58, some 53, some 59, some 60, some 11, some 12] rfl ?_
  refine Kw.WL_v rfl rfl rfl (Kw.R_move rfl) ?_
  refine Kw.WL_v rfl rfl rfl (Kw.R_move rfl) ?_
  refine Kw.WL_v rfl rfl rfl (Kw.R_adds (r := (frm mAB ++ frm mAB)) rfl rfl (by omega) (rfl)) ?_
  refine Kw.WL_v rfl rfl rfl (Kw.R_slices (i := 0) (j := 27) (r := ((frm mAB ++ frm mAB).extract 0 27)) Tryd.underlying9 rfl rfl ⟨_, rfl⟩ (by omega) (by rw [ByteArray.size_append]; omega) (rfl)) ?_
  refine Kw.WL_call rfl rfl rfl rfl F.cl22 rfl (Fw ((frm mAB ++ frm mAB).extract 0 27) (by rw [ByteArray.size_extract]; omega) _ _ ab_whole1 _ HB) ?_; rintro _ w13 ⟨⟨vk, rfl, O_vk⟩, bw13⟩
  replace O_vk := O_vk.mono HB.size
  replace O_vl := O_vl.call bw13
  replace HB := Kw.Below.then HB (Nat.le_refl _) bw13; clear bw13
  refine Kw.WL_v rfl rfl rfl (Kw.R_move rfl) ?_
  refine Kw.WL_v rfl rfl rfl (Kw.R_extract (v := vk) rfl rfl) ?_
  refine Kw.WL_v rfl rfl rfl (Kw.R_extract (v := .int .i64 ((14 : Nat) : Int)) rfl rfl) ?_
  refine Kw.WL_v rfl rfl rfl (Kw.R_assign rfl) ?_
  refine Kw.WL_v rfl rfl rfl (Kw.R_assign rfl) ?_
  refine Kw.WL_nil ?_
  refine hK12 _ _ ?_; clear hK12 K12
  refine Kw.WC_sub (l' := [(3, .string mAB), (4, .int .i64 14), (5, .bool true), (6, .string ⟨#[]⟩), (7, .int .i64 0), (8, .bool false), (9, vl), (10, .int .i64 ((28 : Nat) : Int)), (11, vk), (12, .int .i64 ((14 : Nat) : Int))]) (Kw.Sub.cons rfl (Kw.Sub.cons rfl (Kw.Sub.cons rfl (Kw.Sub.cons rfl (Kw.Sub.cons rfl (Kw.Sub.cons rfl (Kw.Sub.cons rfl (Kw.Sub.cons rfl (Kw.Sub.cons rfl (Kw.Sub.cons rfl Kw.Sub.nil)))))))))) ?_
  refine Kw.WC_seq (fun K14 hK14 => ?_)
  refine Kw.WC_region [some 61, some 62, some 63, some 64, some 65, some 66, some 67, some 68, some 69, some 70, some 71, some 72, some 73, some 74, some 75, some 76, some 77, some 78, some 79, some 80, some 81, some 82, some 83, some 84, some 85, some 86, some 87, some 88, some 89, some 90, some 91, some 92, some 93, some 94, some 95, some 96, some 97, some 98, some 99, some 0] rfl ?_
  refine Kw.WL_v rfl rfl rfl (Kw.R_move rfl) ?_
  refine Kw.WL_v rfl rfl rfl (Kw.R_eqs (z := true) rfl rfl (decide_eq_true rfl)) ?_
  refine Kw.WL_v rfl rfl rfl (Kw.R_move rfl) ?_
  refine Kw.WL_v rfl rfl rfl (Kw.R_move rfl) ?_
  refine Kw.WL_v rfl rfl rfl (Kw.R_eqi (z := true) rfl rfl (decide_eq_true rfl)) ?_
  refine Kw.WL_v rfl rfl rfl (Kw.R_pickt rfl rfl) ?_
  refine Kw.WL_v rfl rfl rfl (Kw.R_move rfl) ?_
  refine Kw.WL_v rfl rfl rfl (Kw.R_move rfl) ?_
  refine Kw.WL_v rfl rfl rfl (Kw.R_pickt rfl rfl) ?_
  refine Kw.WL_v rfl rfl rfl (Kw.R_move rfl) ?_
  refine Kw.WL_v rfl rfl rfl (Kw.R_move rfl) ?_
  refine Kw.WL_v rfl rfl rfl (Kw.R_eqs (z := true) rfl rfl (decide_eq_true rfl)) ?_
  refine Kw.WL_v rfl rfl rfl (Kw.R_pickt rfl rfl) ?_
  refine Kw.WL_v rfl rfl rfl (Kw.R_move rfl) ?_
  refine Kw.WL_v rfl rfl rfl (Kw.R_move rfl) ?_
  refine Kw.WL_v rfl rfl rfl (Kw.R_eqi (z := true) rfl rfl (decide_eq_true rfl)) ?_
  refine Kw.WL_v rfl rfl rfl (Kw.R_pickt rfl rfl) ?_
  refine Kw.WL_v rfl rfl rfl (Kw.R_move rfl) ?_
  refine Kw.WL_v rfl rfl rfl (Kw.R_move rfl) ?_
  refine Kw.WL_v rfl rfl rfl (Kw.R_not rfl rfl) ?_
  refine Kw.WL_v rfl rfl rfl (Kw.R_pickt rfl rfl) ?_
  refine Kw.WL_v rfl rfl rfl (Kw.R_move rfl) ?_
  refine Kw.WL_v rfl rfl rfl (Kw.R_move rfl) ?_
  obtain ⟨g1, w15, N_g1⟩ : ∃ b w2, Kw.Newb w13 b #[.string ⟨#[97, 98]⟩, .string ⟨#[97, 98]⟩] 9 w2 := ⟨_, _, rfl, rfl⟩
  refine Kw.WL_v rfl rfl rfl (Kw.R_buildSlice rfl (fun w => by kernel_rfl) N_g1) ?_
  have A_g1 : Kw.At w15 g1 #[.string ⟨#[97, 98]⟩, .string ⟨#[97, 98]⟩] 9 := N_g1.at_
  have D_vl_g1 := O_vl.ne_new N_g1; replace O_vl := O_vl.new N_g1
  have D_vk_g1 := O_vk.ne_new N_g1; replace O_vk := O_vk.new N_g1
  have G_g1 := N_g1.ge HB (Nat.le_refl _); replace HB := N_g1.below HB (Nat.le_refl _); clear N_g1
  refine Kw.WL_callc rfl rfl rfl rfl F.cl23 rfl (by have k := texts_c vl _ [mAB, mAB] [mAB, mAB] w15 (Strs.own O_vl) (Strs.row A_g1) (by decide); rw [decide_eq_true rfl] at k; exact k) ?_; intro w16 bw16
  replace A_g1 := A_g1.call bw16
  replace HB := Kw.Below.then HB (Nat.le_refl _) bw16
  replace O_vl := O_vl.call bw16
  replace O_vk := O_vk.call bw16
  clear bw16
  refine Kw.WL_v rfl rfl rfl (Kw.R_pickt rfl rfl) ?_
  refine Kw.WL_v rfl rfl rfl (Kw.R_move rfl) ?_
  refine Kw.WL_v rfl rfl rfl (Kw.R_move rfl) ?_
  refine Kw.WL_v rfl rfl rfl (Kw.R_eqi (z := true) rfl rfl (decide_eq_true rfl)) ?_
  refine Kw.WL_v rfl rfl rfl (Kw.R_pickt rfl rfl) ?_
  refine Kw.WL_v rfl rfl rfl (Kw.R_move rfl) ?_
  refine Kw.WL_v rfl rfl rfl (Kw.R_move rfl) ?_
  obtain ⟨g2, w17, N_g2⟩ : ∃ b w2, Kw.Newb w16 b #[.string ⟨#[97, 98]⟩] 9 w2 := ⟨_, _, rfl, rfl⟩
  refine Kw.WL_v rfl rfl rfl (Kw.R_buildSlice rfl (fun w => by kernel_rfl) N_g2) ?_
  have L_g1_g2 := N_g2.ne A_g1; replace A_g1 := N_g2.keep A_g1
  have A_g2 : Kw.At w17 g2 #[.string ⟨#[97, 98]⟩] 9 := N_g2.at_
  have D_vl_g2 := O_vl.ne_new N_g2; replace O_vl := O_vl.new N_g2
  have D_vk_g2 := O_vk.ne_new N_g2; replace O_vk := O_vk.new N_g2
  have G_g2 := N_g2.ge HB (Nat.le_refl _); replace HB := N_g2.below HB (Nat.le_refl _); clear N_g2
  refine Kw.WL_callc rfl rfl rfl rfl F.cl23 rfl (by have k := texts_c vk _ [mAB] [mAB] w17 (Strs.own O_vk) (Strs.row A_g2) (by decide); rw [decide_eq_true rfl] at k; exact k) ?_; intro w18 bw18
  replace A_g1 := A_g1.call bw18
  replace A_g2 := A_g2.call bw18
  replace HB := Kw.Below.then HB (Nat.le_refl _) bw18
  replace O_vl := O_vl.call bw18
  replace O_vk := O_vk.call bw18
  clear bw18
  refine Kw.WL_v rfl rfl rfl (Kw.R_pickt rfl rfl) ?_
  refine Kw.WL_v rfl rfl rfl (Kw.R_move rfl) ?_
  refine Kw.WL_v rfl rfl rfl (Kw.R_move rfl) ?_
  refine Kw.WL_v rfl rfl rfl (Kw.R_eqi (z := true) rfl rfl (decide_eq_true rfl)) ?_
  refine Kw.WL_v rfl rfl rfl (Kw.R_pickt rfl rfl) ?_
  refine Kw.WL_v rfl rfl rfl (Kw.R_assign rfl) ?_
  refine Kw.WL_nil ?_
  refine hK14 _ _ ?_; clear hK14 K14
  refine Kw.WC_sub (l' := [(0, .bool true)]) (Kw.Sub.cons rfl Kw.Sub.nil) ?_
  refine Kw.WC_ret ?_
  exact Kw.post_ret1 rfl rfl ⟨rfl, HB⟩
def okL (L : List ByteArray) : Prop := L.length ≤ 20 ∧ ∀ p ∈ L, p.size ≤ 500
def endsN (L : List ByteArray) (i : Nat) : List Value := (List.range (i + 1)).map fun j => .int .i64 ((row (L.take j)).size : Int)
theorem endsN_length (L : List ByteArray) (i : Nat) : (endsN L i).length = i + 1 := by simp [endsN]
theorem endsN_succ (L : List ByteArray) (i : Nat) : endsN L (i + 1) = endsN L i ++ [.int .i64 ((row (L.take (i + 1))).size : Int)] := by
  unfold endsN
  rw [List.range_succ, List.map_append]; rfl
theorem endsN_get (L : List ByteArray) (i j : Nat) (h : j ≤ i) : (endsN L i)[j]? = some (.int .i64 ((row (L.take j)).size : Int)) := by
  unfold endsN
  rw [List.getElem?_map, List.getElem?_range (by omega)]; rfl
theorem row_size : ∀ (L : List ByteArray), (∀ p ∈ L, p.size ≤ 500) → (row L).size ≤ 512 * L.length
  | [], _ => Nat.le_refl _
  | p :: L, h => by
    have := row_size L (fun q hq => h q (by simp [hq]))
    have hp := h p (by simp)
    rw [row, ByteArray.size_append, frm_size, List.length_cons]; omega
theorem row_take (L : List ByteArray) (i : Nat) (h : i < L.length) : row (L.take (i + 1)) = row (L.take i) ++ frm (L[i]'h) := by
  rw [List.take_succ_eq_append_getElem h, row_snoc]
theorem ok_take {L : List ByteArray} {i : Nat} (h : i < L.length) (h1 : ∀ p ∈ L.take i, p.size ≤ 500) (h2 : (L[i]'h).size ≤ 500) : ∀ p ∈ L.take (i + 1), p.size ≤ 500 := fun p hp => by
  rw [List.take_succ_eq_append_getElem h, List.mem_append, List.mem_singleton] at hp
  rcases hp with hp | rfl
  · exact h1 p hp
  · exact h2

set_option maxRecDepth 100000 in
set_option maxHeartbeats 4000000 in
theorem row_c (v1 : Value) (L : List ByteArray) (w : World) (S1 : Strs w v1 L) : Calls Tryd.prog 21 #[v1] w (Kw.Back fun v w' => ((¬ okL L ∧ v = .tuple #[.string ⟨#[]⟩, .slice none 0 0, .bool false]) ∨ (okL L ∧ ∃ vl, v = .tuple #[.string (row L), vl, .bool true] ∧ Kw.Own w' w.heap.size 3 1 vl (L.length + 1) (endsN L L.length))) ∧ Below w.heap.size w w') := by
  have HB : Below w.heap.size w w := Below.refl _ _
  obtain ⟨a1, cap1, rfl, h1⟩ := S1
  refine Kw.enter Tryd.func21 rfl Tryd.ntmps21 rfl rfl ?_
  refine Kw.WC_seq (fun K1 hK1 => ?_)
  refine Kw.WC_region [some 2, some 3, some 4] rfl ?_
  refine Kw.WL_v rfl rfl rfl (Kw.R_assign rfl) ?_
  refine Kw.WL_v rfl rfl rfl (Kw.R_assign rfl) ?_
  refine Kw.WL_v rfl rfl rfl (Kw.R_assign rfl) ?_
  refine Kw.WL_nil ?_
  refine hK1 _ _ ?_; clear hK1 K1
  refine Kw.WC_seq (fun K2 hK2 => ?_)
  refine Kw.WC_seq (fun K3 hK3 => ?_)
  refine Kw.WC_region [some 10, some 11, some 12] rfl ?_
  refine Kw.WL_v rfl rfl rfl (Kw.R_move rfl) ?_
  refine Kw.WL_v rfl rfl rfl (Kw.R_lenl (n := L.length) Tryd.underlying38 rfl) ?_
  by_cases c4 : (20 : Int) < (L.length : Int)
  ·
    refine Kw.WL_v rfl rfl rfl (Kw.R_gtr (z := true) rfl rfl (decide_eq_true c4)) ?_
    refine Kw.WL_nil ?_
    refine hK3 _ _ ?_; clear hK3 K3
    refine Kw.WC_true rfl ?_
    refine Kw.WC_seq (fun K5 hK5 => ?_)
    refine Kw.WC_region [some 2, some 3, some 4] rfl ?_
    refine Kw.WL_v rfl rfl rfl (Kw.R_assign rfl) ?_
    refine Kw.WL_v rfl rfl rfl (Kw.R_assign rfl) ?_
    refine Kw.WL_v rfl rfl rfl (Kw.R_assign rfl) ?_
    refine Kw.WL_nil ?_
    refine hK5 _ _ ?_; clear hK5 K5
    refine Kw.WC_ret ?_
    refine Kw.QR_then ?_; clear hK2 K2
    exact Kw.post_ret3 rfl rfl rfl rfl ⟨_, rfl, .inl ⟨fun h => by have := h.1; omega, rfl⟩, HB⟩
  ·
    refine Kw.WL_v rfl rfl rfl (Kw.R_gtr (z := false) rfl rfl (decide_eq_false c4)) ?_
    refine Kw.WL_nil ?_
    refine hK3 _ _ ?_; clear hK3 K3
    refine Kw.WC_false rfl ?_
    refine Kw.WC_skip ?_
    refine hK2 _ _ ?_; clear hK2 K2
    refine Kw.WC_sub (l' := [(0, .slice a1 L.length cap1)]) (Kw.Sub.cons rfl Kw.Sub.nil) ?_
    refine Kw.WC_seq (fun K6 hK6 => ?_)
    refine Kw.WC_region [some 13, some 5, some 6] rfl ?_
    obtain ⟨g13, w7, N_g13⟩ : ∃ b w2, Kw.Newb w b #[.int .i64 0] 3 w2 := ⟨_, _, rfl, rfl⟩
    refine Kw.WL_v rfl rfl rfl (Kw.R_buildSlice rfl (fun w => by kernel_rfl) N_g13) ?_
    have A_g13 : Kw.At w7 g13 #[.int .i64 0] 3 := N_g13.at_
    have G_g13 := N_g13.ge HB (Nat.le_refl _); replace HB := N_g13.below HB (Nat.le_refl _); clear N_g13
    refine Kw.WL_v rfl rfl rfl (Kw.R_assign rfl) ?_
    refine Kw.WL_v rfl rfl rfl (Kw.R_assign rfl) ?_
    refine Kw.WL_nil ?_
    refine hK6 _ _ ?_; clear hK6 K6
    refine Kw.WC_seq (fun K8 hK8 => ?_)
    refine Kw.WC_seq (fun K9 hK9 => ?_)
    refine Kw.WC_region [some 7] rfl ?_
    refine Kw.WL_v rfl rfl rfl (Kw.R_assign rfl) ?_
    refine Kw.WL_nil ?_
    refine hK9 _ _ ?_; clear hK9 K9
    refine Kw.WC_block ?_
    refine Kw.WC_loop (ι := Value × Nat) (fun (q : Value × Nat) (ww : World) => match q with | ⟨v, i⟩ => (i ≤ L.length ∧ ∀ p ∈ L.take i, p.size ≤ 500) ∧ Kw.Own ww w.heap.size 3 1 v (i + 1) (endsN L i) ∧ Below w.heap.size w ww) (fun (q : Value × Nat) => match q with | ⟨v, i⟩ => [(0, .slice a1 L.length cap1), (5, .string (row (L.take i))), (6, v), (7, .int .i64 (i : Int))]) (fun (q : Value × Nat) => match q with | ⟨v, i⟩ => L.length - i) (.slice (some ⟨g13, 0, none⟩) 1 1, 0) ⟨⟨Nat.zero_le _, fun p hp => by cases hp⟩, (Kw.Own.whole (by omega) A_g13 (by unfold maxLen; omega) rfl), HB⟩ (Kw.Sub.cons rfl (Kw.Sub.cons rfl (Kw.Sub.cons rfl (Kw.Sub.cons rfl Kw.Sub.nil)))) ?_
    clear A_g13
    clear HB
    rintro ⟨v, i⟩ w10 ⟨⟨hi, hsm⟩, O_v, HB⟩
    dsimp only at *
    refine Kw.WC_seq (fun K11 hK11 => ?_)
    refine Kw.WC_seq (fun K12 hK12 => ?_)
    refine Kw.WC_region [some 14, some 15, some 16, some 17] rfl ?_
    refine Kw.WL_v rfl rfl rfl (Kw.R_move rfl) ?_
    refine Kw.WL_v rfl rfl rfl (Kw.R_move rfl) ?_
    refine Kw.WL_v rfl rfl rfl (Kw.R_lenl (n := L.length) Tryd.underlying38 rfl) ?_
    by_cases c13 : ((i : Int) : Int) < (L.length : Int)
    ·
      refine Kw.WL_v rfl rfl rfl (Kw.R_lss (z := true) rfl rfl (decide_eq_true c13)) ?_
      refine Kw.WL_nil ?_
      refine hK12 _ _ ?_; clear hK12 K12
      refine Kw.WC_true rfl ?_
      refine Kw.WC_skip ?_
      refine hK11 _ _ ?_; clear hK11 K11
      refine Kw.WC_seq (fun K14 hK14 => ?_)
      refine Kw.WC_block ?_
      refine Kw.WC_seq (fun K15 hK15 => ?_)
      refine Kw.WC_seq (fun K16 hK16 => ?_)
      refine Kw.WC_region [some 20, some 21, some 22, some 23, some 24, some 25] rfl ?_
      refine Kw.WL_v rfl rfl rfl (Kw.R_move rfl) ?_
      refine Kw.WL_v rfl rfl rfl (Kw.R_move rfl) ?_
      have hi2 : i < L.length := by omega
      obtain ⟨p, hp⟩ : ∃ p, p = L[i]'hi2 := ⟨_, rfl⟩
      rcases h1 with rfl | ⟨g1, o1, rfl, hc1⟩
      · exact absurd hi2 (Nat.not_lt_zero _)
      have lt1 := block_lt_of_cell (hc1 i hi2)
      refine Kw.WL_v rfl rfl rfl (Kw.R_indexAddrS (i := i) (b := g1) (o := o1) (o' := o1 + i) rfl rfl Tryd.underlying38 F.sz9 (by omega) (by omega)) ?_
      refine Kw.WL_v rfl rfl rfl (Kw.R_loadc (v := .string p) rfl Tryd.underlying9 rfl (by rw [hp]; exact (HB.cell (p := ⟨g1, o1 + i, none⟩) lt1).trans (hc1 i hi2))) ?_
      refine Kw.WL_v rfl rfl rfl (Kw.R_lens Tryd.underlying9 rfl) ?_
      by_cases c17 : (500 : Int) < (p.size : Int)
      ·
        refine Kw.WL_v rfl rfl rfl (Kw.R_gtr (z := true) rfl rfl (decide_eq_true c17)) ?_
        refine Kw.WL_nil ?_
        refine hK16 _ _ ?_; clear hK16 K16
        refine Kw.WC_sub (l' := [(0, .slice (some ⟨g1, o1, none⟩) L.length cap1), (5, .string (row (L.take i))), (6, v), (7, .int .i64 (i : Int)), (25, .bool true)]) (Kw.Sub.cons rfl (Kw.Sub.cons rfl (Kw.Sub.cons rfl (Kw.Sub.cons rfl (Kw.Sub.cons rfl Kw.Sub.nil))))) ?_
        refine Kw.WC_true rfl ?_
        refine Kw.WC_seq (fun K18 hK18 => ?_)
        refine Kw.WC_region [some 2, some 3, some 4] rfl ?_
        refine Kw.WL_v rfl rfl rfl (Kw.R_assign rfl) ?_
        refine Kw.WL_v rfl rfl rfl (Kw.R_assign rfl) ?_
        refine Kw.WL_v rfl rfl rfl (Kw.R_assign rfl) ?_
        refine Kw.WL_nil ?_
        refine hK18 _ _ ?_; clear hK18 K18
        refine Kw.WC_ret ?_
        refine Kw.QR_then ?_; clear hK15 K15
        refine Kw.QR_block ?_
        refine Kw.QR_then ?_; clear hK14 K14
        refine Kw.QR_then ?_
        refine Kw.QR_block ?_
        refine Kw.QR_then ?_; clear hK8 K8
        refine Kw.post_ret3 rfl rfl rfl rfl ⟨_, rfl, .inl ⟨fun h => ?_, rfl⟩, HB⟩
        have := h.2 p (by rw [hp]; exact List.getElem_mem hi2); omega
      ·
        refine Kw.WL_v rfl rfl rfl (Kw.R_gtr (z := false) rfl rfl (decide_eq_false c17)) ?_
        refine Kw.WL_nil ?_
        refine hK16 _ _ ?_; clear hK16 K16
        refine Kw.WC_sub (l' := [(0, .slice (some ⟨g1, o1, none⟩) L.length cap1), (5, .string (row (L.take i))), (6, v), (7, .int .i64 (i : Int)), (25, .bool false)]) (Kw.Sub.cons rfl (Kw.Sub.cons rfl (Kw.Sub.cons rfl (Kw.Sub.cons rfl (Kw.Sub.cons rfl Kw.Sub.nil))))) ?_
        refine Kw.WC_false rfl ?_
        refine Kw.WC_skip ?_
        refine hK15 _ _ ?_; clear hK15 K15
        refine Kw.WC_seq (fun K19 hK19 => ?_)
        refine Kw.WC_region [some 27, some 28, some 29, some 30, some 31, some 26, some 32, some 33, some 8, some 9] rfl ?_
        refine Kw.WL_v rfl rfl rfl (Kw.R_move rfl) ?_
        refine Kw.WL_v rfl rfl rfl (Kw.R_move rfl) ?_
        refine Kw.WL_v rfl rfl rfl (Kw.R_indexAddrS (i := i) (b := g1) (o := o1) (o' := o1 + i) rfl rfl Tryd.underlying38 F.sz9 (by omega) (by omega)) ?_
        refine Kw.WL_v rfl rfl rfl (Kw.R_loadc (v := .string p) rfl Tryd.underlying9 rfl (by rw [hp]; exact (HB.cell (p := ⟨g1, o1 + i, none⟩) lt1).trans (hc1 i hi2))) ?_
        refine Kw.WL_callc rfl rfl rfl rfl F.cl19 rfl (refput_c p (by omega) w10) ?_; intro w20 bw20
        replace HB := Kw.Below.then HB (Nat.le_refl _) bw20
        replace O_v := O_v.call bw20
        clear bw20
        refine Kw.WL_v rfl rfl rfl (Kw.R_move rfl) ?_
        refine Kw.WL_v rfl rfl rfl (Kw.R_extract (v := .string (frm p)) rfl rfl) ?_
        refine Kw.WL_v rfl rfl rfl (Kw.R_extract (v := .int .i64 0) rfl rfl) ?_
        refine Kw.WL_v rfl rfl rfl (Kw.R_assign rfl) ?_
        refine Kw.WL_v rfl rfl rfl (Kw.R_assign rfl) ?_
        refine Kw.WL_nil ?_
        refine hK19 _ _ ?_; clear hK19 K19
        refine Kw.WC_sub (l' := [(0, .slice (some ⟨g1, o1, none⟩) L.length cap1), (5, .string (row (L.take i))), (6, v), (7, .int .i64 (i : Int)), (8, .string (frm p))]) (Kw.Sub.cons rfl (Kw.Sub.cons rfl (Kw.Sub.cons rfl (Kw.Sub.cons rfl (Kw.Sub.cons rfl Kw.Sub.nil))))) ?_
        refine Kw.WC_seq (fun K21 hK21 => ?_)
        refine Kw.WC_region [some 34, some 35, some 36, some 5] rfl ?_
        refine Kw.WL_v rfl rfl rfl (Kw.R_move rfl) ?_
        refine Kw.WL_v rfl rfl rfl (Kw.R_move rfl) ?_
        refine Kw.WL_v rfl rfl rfl (Kw.R_adds (r := (row (L.take (i + 1)))) rfl rfl (by have := row_size _ hsm; rw [frm_size, List.length_take] at *; omega) (by rw [row_take L i hi2, hp])) ?_
        refine Kw.WL_v rfl rfl rfl (Kw.R_assign rfl) ?_
        refine Kw.WL_nil ?_
        refine hK21 _ _ ?_; clear hK21 K21
        refine Kw.WC_region [some 37, some 38, some 39, some 40, some 41, some 6] rfl ?_
        refine Kw.WL_v rfl rfl rfl (Kw.R_move rfl) ?_
        refine Kw.WL_v rfl rfl rfl (Kw.R_move rfl) ?_
        refine Kw.WL_v rfl rfl rfl (Kw.R_lens Tryd.underlying9 rfl) ?_
        obtain ⟨g40, w22, N_g40⟩ : ∃ b w2, Kw.Newb w20 b #[.int .i64 ((row (L.take (i + 1))).size : Int)] 3 w2 := ⟨_, _, rfl, rfl⟩
        refine Kw.WL_v rfl rfl rfl (Kw.R_buildSlice rfl (fun w => by kernel_rfl) N_g40) ?_
        have A_g40 : Kw.At w22 g40 #[.int .i64 ((row (L.take (i + 1))).size : Int)] 3 := N_g40.at_
        have D_v_g40 := O_v.ne_new N_g40; replace O_v := O_v.new N_g40
        have G_g40 := N_g40.ge HB (Nat.le_refl _); replace HB := N_g40.below HB (Nat.le_refl _); clear N_g40
        refine Kw.WL_append rfl rfl rfl rfl Tryd.underlying40 Tryd.underlying40 (.inr ⟨_, rfl⟩) F.sz3 F.by3 F.ze3 rfl O_v (Kw.News.row (news := [.int .i64 ((row (L.take (i + 1))).size : Int)]) A_g40 rfl rfl (by simp [Value.oneCell'])) (by unfold maxLen; omega) (by omega) (Nat.le_trans (Nat.le_refl _) HB.size) ?_; intro v41 w23 O_v41 R_v41
        have D_v41_g40 := R_v41.ne A_g40 D_v_g40; replace A_g40 := R_v41.keep A_g40 D_v_g40
        replace HB := R_v41.below HB (Nat.le_refl _) (fun g hg => O_v.ge hg); clear R_v41
        replace O_v41 : Kw.Own w23 w.heap.size 3 1 v41 (i + 1 + 1) (endsN L (i + 1)) := by rw [endsN_succ]; exact O_v41
        clear O_v
        clear A_g40
        refine Kw.WL_v rfl rfl rfl (Kw.R_assign rfl) ?_
        refine Kw.WL_nil ?_
        refine Kw.QN_block ?_
        refine hK14 _ _ ?_; clear hK14 K14
        refine Kw.WC_sub (l' := [(0, .slice (some ⟨g1, o1, none⟩) L.length cap1), (5, .string (row (L.take (i + 1)))), (6, v41), (7, .int .i64 (i : Int))]) (Kw.Sub.cons rfl (Kw.Sub.cons rfl (Kw.Sub.cons rfl (Kw.Sub.cons rfl Kw.Sub.nil)))) ?_
        refine Kw.WC_region [some 18, some 19, some 7] rfl ?_
        refine Kw.WL_v rfl rfl rfl (Kw.R_move rfl) ?_
        refine Kw.WL_v rfl rfl rfl (Kw.R_add (c := ((i + 1 : Nat) : Int)) rfl rfl (by rw [Kw.wrap_i64 (by omega)]; omega)) ?_
        refine Kw.WL_v rfl rfl rfl (Kw.R_assign rfl) ?_
        refine Kw.WL_nil ?_
        refine Kw.QN_round ((v41, i + 1)) ⟨⟨by omega, ok_take hi2 hsm (by rw [← hp]; omega)⟩, O_v41, HB⟩ (by dsimp only; omega) (Kw.Sub.cons rfl (Kw.Sub.cons rfl (Kw.Sub.cons rfl (Kw.Sub.cons rfl Kw.Sub.nil))))
    ·
      refine Kw.WL_v rfl rfl rfl (Kw.R_lss (z := false) rfl rfl (decide_eq_false c13)) ?_
      refine Kw.WL_nil ?_
      refine hK12 _ _ ?_; clear hK12 K12
      refine Kw.WC_false rfl ?_
      refine Kw.WC_exit ?_
      refine Kw.QE_then ?_; clear hK11 K11
      refine Kw.QE_then ?_
      refine Kw.QE_here ?_
      refine hK8 _ _ ?_; clear hK8 K8
      refine Kw.WC_sub (l' := [(5, .string (row (L.take i))), (6, v)]) (Kw.Sub.cons rfl (Kw.Sub.cons rfl Kw.Sub.nil)) ?_
      refine Kw.WC_seq (fun K24 hK24 => ?_)
      refine Kw.WC_region [some 42, some 43, some 2, some 3, some 4] rfl ?_
      refine Kw.WL_v rfl rfl rfl (Kw.R_move rfl) ?_
      refine Kw.WL_v rfl rfl rfl (Kw.R_move rfl) ?_
      refine Kw.WL_v rfl rfl rfl (Kw.R_assign rfl) ?_
      refine Kw.WL_v rfl rfl rfl (Kw.R_assign rfl) ?_
      refine Kw.WL_v rfl rfl rfl (Kw.R_assign rfl) ?_
      refine Kw.WL_nil ?_
      refine hK24 _ _ ?_; clear hK24 K24
      refine Kw.WC_ret ?_
      obtain rfl : i = L.length := by omega
      rw [List.take_length] at hsm
      refine Kw.post_ret3 rfl rfl rfl rfl ⟨_, rfl, .inr ⟨⟨by omega, hsm⟩, v, by rw [List.take_length], O_v⟩, HB⟩
end Go.Proofs.YtngkedoaijlnlaaDoor.Fn
