/- Payloads as frames: the head, Put and the cutting of the first frame, as contracts. -/
import Derived.Test.YtngkedoaijlnlaaDoorRefSum
namespace Go.Proofs.YtngkedoaijlnlaaDoor.Fn
open Go Go.Proofs Go.RowKit Go.Proofs.YtngkedoaijlnlaaDoorW.PrintWords Go.Proofs.YtngkedoaijlnlaaDoorW.PrintLast Go.Proofs.YtngkedoaijlnlaaDoorW.PrintMore
set_option linter.unusedVariables false
set_option linter.unusedSimpArgs false
theorem be_bytes : ∀ (k : Nat) (x : Int), Bytes (be k x)
  | 0, x => fun y h => by cases h
  | k + 1, x => fun y h => by
    rw [be, List.mem_append, List.mem_singleton] at h
    rcases h with h | rfl
    · exact be_bytes k _ y h
    · omega
theorem outL_bytes (V : List Int) : ∀ k, Bytes (outL V k)
  | 0 => fun y h => by cases h
  | k + 1 => fun y h => by
    rw [outL, List.mem_append] at h
    rcases h with h | h
    · exact outL_bytes V k y h
    · exact be_bytes 4 _ y h
theorem sumV_length (K H : List Int) (s : ByteArray) : (sumV K H s).length = 32 := outL_length _ 8
theorem sumV_bytes (K H : List Int) (s : ByteArray) : Bytes (sumV K H s) := outL_bytes _ 8

/-! Payloads as frames, in plain words -/
def lenB (n : Nat) : ByteArray := strOfNums (putV (n : Int) 4)
theorem put4_length (n : Int) : (putV n 4).length = 4 := by unfold putV; rw [if_pos (by omega)]; exact be_length _ _
theorem lenB_size (n : Nat) : (lenB n).size = 4 := by unfold lenB; rw [strOfNums_size, put4_length]
def octL (S : List Int) : List UInt8 := (S.take 8).map fun x => x.toNat.toUInt8
def oct (S : List Int) : ByteArray := ⟨(octL S).toArray⟩
theorem oct_size (S : List Int) (h : 8 ≤ S.length) : (oct S).size = 8 := by
  show (octL S).toArray.size = 8
  unfold octL; simp; omega
theorem oct_cells (S : List Int) (h : 8 ≤ S.length) (hb : Bytes S) (j : Nat) (hj : j < (octL S).length) : (cells8 S)[0 + j]? = some (.int .u8 (((octL S)[j].toNat : Nat) : Int)) := by
  have hj8 : j < 8 := by unfold octL at hj; simp at hj; omega
  have e' : (octL S)[j]? = some (S.getD j 0).toNat.toUInt8 := by
    unfold octL
    rw [List.getElem?_map, List.getElem?_take, if_pos hj8, List.getD_eq_getElem?_getD, List.getElem?_eq_getElem (by omega)]; rfl
  have e : (octL S)[j] = (S.getD j 0).toNat.toUInt8 := by
    rw [List.getElem?_eq_getElem hj] at e'; exact Option.some.inj e'
  rw [Nat.zero_add, cells8_get S j (by omega), e, u8_back _ ⟨(bytes_getD S hb j).1, (bytes_getD S hb j).2⟩]
/-- A payload's head, and its frame. -/
def hd (p : ByteArray) : ByteArray := lenB p.size ++ oct (sumV K64 H8 (lenB p.size ++ p))
def frm (p : ByteArray) : ByteArray := hd p ++ p
theorem hd_size (p : ByteArray) : (hd p).size = 12 := by
  unfold hd
  rw [ByteArray.size_append, lenB_size, oct_size _ (by rw [sumV_length]; omega)]
theorem frm_size (p : ByteArray) : (frm p).size = 12 + p.size := by unfold frm; rw [ByteArray.size_append, hd_size]
def num4 (b : ByteArray) : Int := getS (b.extract 0 4)
theorem num4_range (b : ByteArray) (h : 4 ≤ b.size) : 0 ≤ num4 b ∧ num4 b < 4294967296 := by
  unfold num4
  rw [get4 _ (by rw [ByteArray.size_extract]; omega)]
  exact word_range _ _ _ _ _
/-- The payload of the frame that stands ahead of bytes. -/
def cutV (b : ByteArray) : Option ByteArray :=
  if 12 ≤ b.size ∧ num4 b ≤ 65536 ∧ num4 b ≤ (b.size : Int) - 12 ∧ hd (b.extract 12 (12 + (num4 b).toNat)) = b.extract 0 12 then some (b.extract 12 (12 + (num4 b).toNat)) else none
theorem cut_no1 (b : ByteArray) (h : b.size < 12) : cutV b = none := by unfold cutV; rw [if_neg (by omega)]
theorem cut_no2 (b : ByteArray) (h : 65536 < num4 b) : cutV b = none := by unfold cutV; rw [if_neg (by omega)]
theorem cut_no3 (b : ByteArray) (h : (b.size : Int) - 12 < num4 b) : cutV b = none := by unfold cutV; rw [if_neg (by omega)]
theorem cut_last (b : ByteArray) (h1 : 12 ≤ b.size) (h2 : num4 b ≤ 65536) (h3 : num4 b ≤ (b.size : Int) - 12) :
    cutV b = if hd (b.extract 12 (12 + (num4 b).toNat)) = b.extract 0 12 then some (b.extract 12 (12 + (num4 b).toNat)) else none := by
  unfold cutV
  by_cases h : hd (b.extract 12 (12 + (num4 b).toNat)) = b.extract 0 12
  · rw [if_pos ⟨h1, h2, h3, h⟩, if_pos h]
  · rw [if_neg (fun k => h k.2.2.2), if_neg h]
/-- What a piece of bytes reads. -/
theorem cellsS_extract (b : ByteArray) (i j : Nat) (hj : j ≤ b.size) : cellsS (b.extract i j) = ((cellsS b).drop i).take (j - i) := by
  unfold cellsS
  rw [ByteArray.data_extract, Array.toList_extract, List.extract_eq_take_drop, List.map_take, List.map_drop]
theorem bytes_piece {cur : List Value} {o i j m o' : Nat} {b : ByteArray} (hb : (cur.drop o).take b.size = cellsS b) (hij : i ≤ j) (hj : j ≤ b.size) (hjm : j ≤ m) (he : (if m = i then o else o + i * 1) = o') :
    (cur.drop o').take (j - i) = cellsS (b.extract i j) := by
  have := Kw.piece (s := 1) (len := b.size) (xs := cellsS b) (by rw [Nat.mul_one]; exact hb) hij hj hjm he
  rw [Nat.mul_one, Nat.mul_one] at this
  rw [this, cellsS_extract b i j hj]
theorem conv_hc {cur : Array Value} {o' n : Nat} {p : ByteArray} (h : (cur.toList.drop o').take n = cellsS p) (hn : n = p.size) (j : Nat) (hj : j < p.data.toList.length) : cur[o' + j]? = some (.int .u8 ((p.data.toList[j].toNat : Nat) : Int)) := by
  have hj' : j < p.size := by simpa using hj
  have e : (cellsS p)[j]? = some (.int .u8 ((p.data.toList[j].toNat : Nat) : Int)) := by
    unfold cellsS
    rw [List.getElem?_map, List.getElem?_eq_getElem hj]; rfl
  rw [← h, List.getElem?_take, if_pos (by omega), List.getElem?_drop, Array.getElem?_toList] at e
  exact e
theorem tl_len (p : ByteArray) : p.data.toList.length = p.size := by simp
theorem get_c (s : ByteArray) (w : World) : Calls Tryd.prog 45 #[.string s] w fun e w' => e = .returned (.int .u64 (getS s)) ∧ Below w.heap.size w w' := bits_Get.calls 10 s _ w (get_f s 0)
theorem putB_c (n : Nat) (w : World) : Calls Tryd.prog 26 #[.int .u64 (n : Int), .int .i64 4] w fun e w' => e = .returned (.string (lenB n)) ∧ Below w.heap.size w w' := put_c (n : Int) (by omega) 4 w

set_option maxRecDepth 100000 in
set_option maxHeartbeats 4000000 in
theorem mark_c (p : ByteArray) (hp : p.size ≤ 900000) (w : World) (h0 : Tab w 0 H8) (h1 : Tab w 1 K64) : Calls Tryd.prog 34 #[.string p] w fun e w' => e = .returned (.string (hd p)) ∧ Below w.heap.size w w' := by
  have HB : Below w.heap.size w w := Below.refl _ _
  have Sc : ∀ (q : ByteArray), q.size ≤ 1000000 → ∀ (w' : World), Below w.heap.size w w' → Calls Tryd.prog 11 #[.string q] w' fun e w2 => e = .returned (.agg (cells8 (sumV K64 H8 q))) ∧ Below w'.heap.size w' w2 := fun q hs w' b => sum_c q hs K64 H8 rfl rfl (by unfold Nums; decide +kernel) w' (tab_below h0 b) (tab_below h1 b)
  clear h0 h1
  refine Kw.enter Tryd.func34 rfl Tryd.ntmps34 rfl rfl ?_
  refine Kw.WC_seq (fun K1 hK1 => ?_)
  refine Kw.WC_region [some 2] rfl ?_
  refine Kw.WL_v rfl rfl rfl (Kw.R_assign rfl) ?_
  refine Kw.WL_nil ?_
  refine hK1 _ _ ?_; clear hK1 K1
  refine Kw.WC_seq (fun K2 hK2 => ?_)
  refine Kw.WC_region [some 5, some 6, some 7, some 8, some 3] rfl ?_
  refine Kw.WL_v rfl rfl rfl (Kw.R_move rfl) ?_
  refine Kw.WL_v rfl rfl rfl (Kw.R_lens Tryd.underlying9 rfl) ?_
  refine Kw.WL_v rfl rfl rfl (Kw.R_conv (c := (p.size : Int)) Tryd.underlying3 Tryd.underlying55 rfl (Kw.wrap_u64 (by omega))) ?_
  refine Kw.WL_callc rfl rfl rfl rfl F.cl26 rfl (putB_c p.size _) ?_; intro w3 bw3
  replace HB := Kw.Below.then HB (Nat.le_refl _) bw3
  clear bw3
  refine Kw.WL_v rfl rfl rfl (Kw.R_assign rfl) ?_
  refine Kw.WL_nil ?_
  refine hK2 _ _ ?_; clear hK2 K2
  refine Kw.WC_seq (fun K4 hK4 => ?_)
  refine Kw.WC_region [some 9, some 10, some 11, some 12, some 4, none] rfl ?_
  refine Kw.WL_v rfl rfl rfl (Kw.R_move rfl) ?_
  refine Kw.WL_v rfl rfl rfl (Kw.R_move rfl) ?_
  refine Kw.WL_v rfl rfl rfl (Kw.R_adds (r := (lenB p.size ++ p)) rfl rfl (by rw [lenB_size]; omega) (rfl)) ?_
  refine Kw.WL_callc rfl rfl rfl rfl F.cl11 rfl (Sc (lenB p.size ++ p) (by rw [ByteArray.size_append, lenB_size]; omega) _ HB) ?_; intro w5 bw5
  replace HB := Kw.Below.then HB (Nat.le_refl _) bw5
  clear bw5
  refine Kw.WL_alloc rfl rfl F.zr24 ?_; intro g4 w6 N_g4
  have A_g4 : Kw.At w6 g4 F.Z24 24 := N_g4.at_
  have G_g4 := N_g4.ge HB (Nat.le_refl _); replace HB := N_g4.below HB (Nat.le_refl _); clear N_g4
  refine Kw.WL_storeW rfl rfl rfl (by rw [cells8_size]; first | (rw [sumV_length]; exact F.sz24) | exact F.sz24) A_g4 (by rw [cells8_size, sumV_length]; rfl) (by simpa using cells8_one _) ?_; intro w7 M_g4
  replace A_g4 : Kw.At w7 g4 (cells8 (sumV K64 H8 (lenB p.size ++ p))) 24 := M_g4.at_ A_g4
  replace HB := M_g4.below HB G_g4; clear M_g4
  refine Kw.WL_nil ?_
  refine hK4 _ _ ?_; clear hK4 K4
  refine Kw.WC_sub (l' := [(3, .string (lenB p.size)), (4, .pointer (some ⟨g4, 0, none⟩))]) (Kw.Sub.cons rfl (Kw.Sub.cons rfl Kw.Sub.nil)) ?_
  refine Kw.WC_seq (fun K8 hK8 => ?_)
  refine Kw.WC_region [some 13, some 14, some 15, some 16, some 2] rfl ?_
  refine Kw.WL_v rfl rfl rfl (Kw.R_move rfl) ?_
  refine Kw.WL_v rfl rfl rfl (Kw.R_sliceA (i := 0) (j := 8) (m := 32) (o' := 0) rfl Tryd.underlying24 F.sz5 rfl ⟨_, rfl⟩ rfl (by omega) (by omega) (by omega) rfl (by simp)) ?_
  refine Kw.WL_v rfl rfl rfl (Kw.R_convbs (bs := octL (sumV K64 H8 (lenB p.size ++ p))) (r := (oct (sumV K64 H8 (lenB p.size ++ p)))) Tryd.underlying32 Tryd.underlying5 Tryd.underlying9 rfl A_g4 (by unfold octL; simp [sumV_length]) (fun j hj => oct_cells _ (by rw [sumV_length]; omega) (sumV_bytes _ _ _) j hj) (rfl)) ?_
  refine Kw.WL_v rfl rfl rfl (Kw.R_adds (r := (hd p)) rfl rfl (by rw [lenB_size, oct_size _ (by rw [sumV_length]; omega)]; omega) (rfl)) ?_
  refine Kw.WL_v rfl rfl rfl (Kw.R_assign rfl) ?_
  refine Kw.WL_nil ?_
  refine hK8 _ _ ?_; clear hK8 K8
  refine Kw.WC_sub (l' := [(2, .string (hd p))]) (Kw.Sub.cons rfl Kw.Sub.nil) ?_
  refine Kw.WC_ret ?_
  exact Kw.post_ret1 rfl rfl ⟨rfl, HB⟩

set_option maxRecDepth 100000 in
set_option maxHeartbeats 4000000 in
theorem fput_c (p : ByteArray) (hp : p.size ≤ 65536) (w : World) (h0 : Tab w 0 H8) (h1 : Tab w 1 K64) : Calls Tryd.prog 18 #[.string p] w fun e w' => e = .returned (.tuple #[.string (frm p), .int .i64 0]) ∧ Below w.heap.size w w' := by
  have HB : Below w.heap.size w w := Below.refl _ _
  have Mk : ∀ (q : ByteArray), q.size ≤ 900000 → ∀ (w' : World), Below w.heap.size w w' → Calls Tryd.prog 34 #[.string q] w' fun e w2 => e = .returned (.string (hd q)) ∧ Below w'.heap.size w' w2 := fun q hs w' b => mark_c q hs w' (tab_below h0 b) (tab_below h1 b)
  clear h0 h1
  refine Kw.enter Tryd.func18 rfl Tryd.ntmps18 rfl rfl ?_
  refine Kw.WC_seq (fun K1 hK1 => ?_)
  refine Kw.WC_region [some 2, some 3] rfl ?_
  refine Kw.WL_v rfl rfl rfl (Kw.R_assign rfl) ?_
  refine Kw.WL_v rfl rfl rfl (Kw.R_assign rfl) ?_
  refine Kw.WL_nil ?_
  refine hK1 _ _ ?_; clear hK1 K1
  refine Kw.WC_seq (fun K2 hK2 => ?_)
  refine Kw.WC_seq (fun K3 hK3 => ?_)
  refine Kw.WC_region [some 4, some 5, some 6] rfl ?_
  refine Kw.WL_v rfl rfl rfl (Kw.R_move rfl) ?_
  refine Kw.WL_v rfl rfl rfl (Kw.R_lens Tryd.underlying9 rfl) ?_
  refine Kw.WL_v rfl rfl rfl (Kw.R_gtr (z := false) rfl rfl (decide_eq_false (by omega))) ?_
  refine Kw.WL_nil ?_
  refine hK3 _ _ ?_; clear hK3 K3
  refine Kw.WC_false rfl ?_
  refine Kw.WC_skip ?_
  refine hK2 _ _ ?_; clear hK2 K2
  refine Kw.WC_seq (fun K4 hK4 => ?_)
  refine Kw.WC_region [some 7, some 8, some 9, some 10, some 2, some 3] rfl ?_
  refine Kw.WL_v rfl rfl rfl (Kw.R_move rfl) ?_
  refine Kw.WL_callc rfl rfl rfl rfl F.cl34 rfl (Mk p (by omega) _ HB) ?_; intro w5 bw5
  replace HB := Kw.Below.then HB (Nat.le_refl _) bw5
  clear bw5
  refine Kw.WL_v rfl rfl rfl (Kw.R_move rfl) ?_
  refine Kw.WL_v rfl rfl rfl (Kw.R_adds (r := (frm p)) rfl rfl (by rw [hd_size]; omega) (rfl)) ?_
  refine Kw.WL_v rfl rfl rfl (Kw.R_assign rfl) ?_
  refine Kw.WL_v rfl rfl rfl (Kw.R_assign rfl) ?_
  refine Kw.WL_nil ?_
  refine hK4 _ _ ?_; clear hK4 K4
  refine Kw.WC_sub (l' := [(2, .string (frm p)), (3, .int .i64 0)]) (Kw.Sub.cons rfl (Kw.Sub.cons rfl Kw.Sub.nil)) ?_
  refine Kw.WC_ret ?_
  exact Kw.post_ret2 rfl rfl rfl ⟨rfl, HB⟩
set_option maxRecDepth 100000 in
set_option maxHeartbeats 4000000 in
theorem fput_long (p : ByteArray) (hp : 65536 < p.size) (w : World) : Calls Tryd.prog 18 #[.string p] w fun e w' => e = .returned (.tuple #[.string ⟨#[]⟩, .int .i64 3]) ∧ Below w.heap.size w w' := by
  have HB : Below w.heap.size w w := Below.refl _ _
  refine Kw.enter Tryd.func18 rfl Tryd.ntmps18 rfl rfl ?_
  refine Kw.WC_seq (fun K1 hK1 => ?_)
  refine Kw.WC_region [some 2, some 3] rfl ?_
  refine Kw.WL_v rfl rfl rfl (Kw.R_assign rfl) ?_
  refine Kw.WL_v rfl rfl rfl (Kw.R_assign rfl) ?_
  refine Kw.WL_nil ?_
  refine hK1 _ _ ?_; clear hK1 K1
  refine Kw.WC_seq (fun K2 hK2 => ?_)
  refine Kw.WC_seq (fun K3 hK3 => ?_)
  refine Kw.WC_region [some 4, some 5, some 6] rfl ?_
  refine Kw.WL_v rfl rfl rfl (Kw.R_move rfl) ?_
  refine Kw.WL_v rfl rfl rfl (Kw.R_lens Tryd.underlying9 rfl) ?_
  refine Kw.WL_v rfl rfl rfl (Kw.R_gtr (z := true) rfl rfl (decide_eq_true (by omega))) ?_
  refine Kw.WL_nil ?_
  refine hK3 _ _ ?_; clear hK3 K3
  refine Kw.WC_true rfl ?_
  refine Kw.WC_seq (fun K4 hK4 => ?_)
  refine Kw.WC_region [some 2, some 3] rfl ?_
  refine Kw.WL_v rfl rfl rfl (Kw.R_assign rfl) ?_
  refine Kw.WL_v rfl rfl rfl (Kw.R_assign rfl) ?_
  refine Kw.WL_nil ?_
  refine hK4 _ _ ?_; clear hK4 K4
  refine Kw.WC_ret ?_
  refine Kw.QR_then ?_; clear hK2 K2
  exact Kw.post_ret2 rfl rfl rfl ⟨rfl, HB⟩

set_option maxRecDepth 100000 in
set_option maxHeartbeats 4000000 in
theorem cut_c (b : ByteArray) (gb o cap : Nat) (cur : Array Value) (w : World) (A_gb : Kw.At w gb cur 5) (hb : (cur.toList.drop o).take b.size = cellsS b) (hc : b.size ≤ cap) (hcap : cap ≤ 9223372036854775807) (h0 : Tab w 0 H8) (h1 : Tab w 1 K64) :
    Calls Tryd.prog 38 #[.slice (some ⟨gb, o, none⟩) b.size cap] w (Kw.Back fun v w' => (∃ vp vr, v = .tuple #[vp, vr, .bool (cutV b).isSome] ∧ ∀ p, cutV b = some p → ∃ op oq, vp = .slice (some ⟨gb, op, none⟩) p.size p.size ∧
      vr = .slice (some ⟨gb, oq, none⟩) (b.size - (12 + p.size)) (cap - (12 + p.size)) ∧ (cur.toList.drop op).take p.size = cellsS p ∧ (cur.toList.drop oq).take (b.size - (12 + p.size)) = cellsS (b.extract (12 + p.size) b.size)) ∧ Below w.heap.size w w') := by
  have HB : Below w.heap.size w w := Below.refl _ _
  have Mk : ∀ (q : ByteArray), q.size ≤ 900000 → ∀ (w' : World), Below w.heap.size w w' → Calls Tryd.prog 34 #[.string q] w' fun e w2 => e = .returned (.string (hd q)) ∧ Below w'.heap.size w' w2 := fun q hs w' b => mark_c q hs w' (tab_below h0 b) (tab_below h1 b)
  clear h0 h1
  refine Kw.enter Tryd.func38 rfl Tryd.ntmps38 rfl rfl ?_
  refine Kw.WC_seq (fun K1 hK1 => ?_)
  refine Kw.WC_region [some 2, some 3, some 4] rfl ?_
  refine Kw.WL_v rfl rfl rfl (Kw.R_assign rfl) ?_
  refine Kw.WL_v rfl rfl rfl (Kw.R_assign rfl) ?_
  refine Kw.WL_v rfl rfl rfl (Kw.R_assign rfl) ?_
  refine Kw.WL_nil ?_
  refine hK1 _ _ ?_; clear hK1 K1
  refine Kw.WC_seq (fun K2 hK2 => ?_)
  refine Kw.WC_seq (fun K3 hK3 => ?_)
  refine Kw.WC_region [some 7, some 8, some 9] rfl ?_
  refine Kw.WL_v rfl rfl rfl (Kw.R_move rfl) ?_
  refine Kw.WL_v rfl rfl rfl (Kw.R_lenl Tryd.underlying32 rfl) ?_
  by_cases c4 : ((b.size : Int) : Int) < 12
  ·
    refine Kw.WL_v rfl rfl rfl (Kw.R_lss (z := true) rfl rfl (decide_eq_true c4)) ?_
    refine Kw.WL_nil ?_
    refine hK3 _ _ ?_; clear hK3 K3
    refine Kw.WC_true rfl ?_
    refine Kw.WC_seq (fun K5 hK5 => ?_)
    refine Kw.WC_region [some 10, some 2, some 3, some 4] rfl ?_
    refine Kw.WL_v rfl rfl rfl (Kw.R_move rfl) ?_
    refine Kw.WL_v rfl rfl rfl (Kw.R_assign rfl) ?_
    refine Kw.WL_v rfl rfl rfl (Kw.R_assign rfl) ?_
    refine Kw.WL_v rfl rfl rfl (Kw.R_assign rfl) ?_
    refine Kw.WL_nil ?_
    refine hK5 _ _ ?_; clear hK5 K5
    refine Kw.WC_ret ?_
    refine Kw.QR_then ?_; clear hK2 K2
    have hN : cutV b = none := by
      first
      | exact cut_no1 b (by omega)
      | exact cut_no2 b (by omega)
      | exact cut_no3 b (by omega)
    refine Kw.post_ret3 rfl rfl rfl rfl ⟨_, rfl, ⟨_, _, by rw [hN]; rfl, fun p hp => ?_⟩, HB⟩
    rw [hN] at hp; cases hp
  ·
    refine Kw.WL_v rfl rfl rfl (Kw.R_lss (z := false) rfl rfl (decide_eq_false c4)) ?_
    refine Kw.WL_nil ?_
    refine hK3 _ _ ?_; clear hK3 K3
    refine Kw.WC_false rfl ?_
    refine Kw.WC_skip ?_
    refine hK2 _ _ ?_; clear hK2 K2
    refine Kw.WC_sub (l' := [(0, .slice (some ⟨gb, o, none⟩) b.size cap)]) (Kw.Sub.cons rfl Kw.Sub.nil) ?_
    refine Kw.WC_seq (fun K6 hK6 => ?_)
    refine Kw.WC_region [some 11, some 12, some 13, some 14, some 5] rfl ?_
    refine Kw.WL_v rfl rfl rfl (Kw.R_move rfl) ?_
    obtain ⟨o12, ho12⟩ : ∃ x : Nat, (if cap = 0 then o else o + 0 * 1) = x := ⟨_, rfl⟩
    refine Kw.WL_v rfl rfl rfl (Kw.R_slicel (i := 0) (j := 4) (m := cap) (o' := o12) rfl Tryd.underlying32 F.sz5 rfl ⟨_, rfl⟩ rfl (by omega) (by omega) (by omega) rfl (ho12)) ?_
    refine Kw.WL_v rfl rfl rfl (Kw.R_convbs (bs := (b.extract 0 4).data.toList) (r := (b.extract 0 4)) Tryd.underlying32 Tryd.underlying5 Tryd.underlying9 rfl A_gb (by rw [tl_len, ByteArray.size_extract]; omega) (conv_hc (bytes_piece hb (by omega) (by omega) (by omega) ho12) (by rw [ByteArray.size_extract]; omega)) (rfl)) ?_
    obtain ⟨n, hn⟩ : ∃ n, n = num4 b := ⟨_, rfl⟩
    have rn : 0 ≤ n ∧ n < 4294967296 := by rw [hn]; exact num4_range b (by omega)
    refine Kw.WL_callc rfl rfl rfl rfl F.cl45 rfl (by have k := get_c (b.extract 0 4) w; rw [show getS (b.extract 0 4) = n from hn.symm] at k; exact k) ?_; intro w7 bw7
    replace A_gb := A_gb.call bw7
    replace HB := Kw.Below.then HB (Nat.le_refl _) bw7
    clear bw7
    refine Kw.WL_v rfl rfl rfl (Kw.R_assign rfl) ?_
    refine Kw.WL_nil ?_
    refine hK6 _ _ ?_; clear hK6 K6
    refine Kw.WC_seq (fun K8 hK8 => ?_)
    refine Kw.WC_seq (fun K9 hK9 => ?_)
    refine Kw.WC_region [some 15, some 16, some 17, some 18, some 19, some 20, some 21, some 22, some 23, some 24] rfl ?_
    refine Kw.WL_v rfl rfl rfl (Kw.R_move rfl) ?_
    by_cases c10 : (65536 : Int) < n
    ·
      refine Kw.WL_v rfl rfl rfl (Kw.R_gtr (z := true) rfl rfl (decide_eq_true c10)) ?_
      refine Kw.WL_v rfl rfl rfl (Kw.R_move rfl) ?_
      refine Kw.WL_off rfl rfl rfl ?_
      refine Kw.WL_off rfl rfl rfl ?_
      refine Kw.WL_off rfl rfl rfl ?_
      refine Kw.WL_off rfl rfl rfl ?_
      refine Kw.WL_off rfl rfl rfl ?_
      refine Kw.WL_off rfl rfl rfl ?_
      refine Kw.WL_v rfl rfl rfl (Kw.R_pickt rfl rfl) ?_
      refine Kw.WL_nil ?_
      refine hK9 _ _ ?_; clear hK9 K9
      refine Kw.WC_sub (l' := [(0, .slice (some ⟨gb, o, none⟩) b.size cap), (5, .int .u64 n), (24, .bool true)]) (Kw.Sub.cons rfl (Kw.Sub.cons rfl (Kw.Sub.cons rfl Kw.Sub.nil))) ?_
      refine Kw.WC_true rfl ?_
      refine Kw.WC_seq (fun K11 hK11 => ?_)
      refine Kw.WC_region [some 25, some 2, some 3, some 4] rfl ?_
      refine Kw.WL_v rfl rfl rfl (Kw.R_move rfl) ?_
      refine Kw.WL_v rfl rfl rfl (Kw.R_assign rfl) ?_
      refine Kw.WL_v rfl rfl rfl (Kw.R_assign rfl) ?_
      refine Kw.WL_v rfl rfl rfl (Kw.R_assign rfl) ?_
      refine Kw.WL_nil ?_
      refine hK11 _ _ ?_; clear hK11 K11
      refine Kw.WC_ret ?_
      refine Kw.QR_then ?_; clear hK8 K8
      have hN : cutV b = none := by
        first
        | exact cut_no1 b (by omega)
        | exact cut_no2 b (by omega)
        | exact cut_no3 b (by omega)
      refine Kw.post_ret3 rfl rfl rfl rfl ⟨_, rfl, ⟨_, _, by rw [hN]; rfl, fun p hp => ?_⟩, HB⟩
      rw [hN] at hp; cases hp
    ·
      refine Kw.WL_v rfl rfl rfl (Kw.R_gtr (z := false) rfl rfl (decide_eq_false c10)) ?_
      refine Kw.WL_v rfl rfl rfl (Kw.R_move rfl) ?_
      refine Kw.WL_v rfl rfl rfl (Kw.R_move rfl) ?_
      refine Kw.WL_v rfl rfl rfl (Kw.R_conv (c := n) Tryd.underlying55 Tryd.underlying3 rfl (Kw.wrap_i64 (by omega))) ?_
      refine Kw.WL_v rfl rfl rfl (Kw.R_move rfl) ?_
      refine Kw.WL_v rfl rfl rfl (Kw.R_lenl Tryd.underlying32 rfl) ?_
      obtain ⟨x22, hx22⟩ : ∃ x : Int, x = (b.size : Int) - 12 := ⟨_, rfl⟩
      refine Kw.WL_v rfl rfl rfl (Kw.R_sub (c := x22) rfl rfl (by rw [Kw.wrap_i64 (by omega)]; rw [hx22])) ?_
      by_cases c12 : (x22 : Int) < n
      ·
        refine Kw.WL_v rfl rfl rfl (Kw.R_gtr (z := true) rfl rfl (decide_eq_true c12)) ?_
        refine Kw.WL_v rfl rfl rfl (Kw.R_pickf rfl rfl) ?_
        refine Kw.WL_nil ?_
        refine hK9 _ _ ?_; clear hK9 K9
        refine Kw.WC_sub (l' := [(0, .slice (some ⟨gb, o, none⟩) b.size cap), (5, .int .u64 n), (24, .bool true)]) (Kw.Sub.cons rfl (Kw.Sub.cons rfl (Kw.Sub.cons rfl Kw.Sub.nil))) ?_
        refine Kw.WC_true rfl ?_
        refine Kw.WC_seq (fun K13 hK13 => ?_)
        refine Kw.WC_region [some 25, some 2, some 3, some 4] rfl ?_
        refine Kw.WL_v rfl rfl rfl (Kw.R_move rfl) ?_
        refine Kw.WL_v rfl rfl rfl (Kw.R_assign rfl) ?_
        refine Kw.WL_v rfl rfl rfl (Kw.R_assign rfl) ?_
        refine Kw.WL_v rfl rfl rfl (Kw.R_assign rfl) ?_
        refine Kw.WL_nil ?_
        refine hK13 _ _ ?_; clear hK13 K13
        refine Kw.WC_ret ?_
        refine Kw.QR_then ?_; clear hK8 K8
        have hN : cutV b = none := by
          first
          | exact cut_no1 b (by omega)
          | exact cut_no2 b (by omega)
          | exact cut_no3 b (by omega)
        refine Kw.post_ret3 rfl rfl rfl rfl ⟨_, rfl, ⟨_, _, by rw [hN]; rfl, fun p hp => ?_⟩, HB⟩
        rw [hN] at hp; cases hp
      ·
        refine Kw.WL_v rfl rfl rfl (Kw.R_gtr (z := false) rfl rfl (decide_eq_false c12)) ?_
        refine Kw.WL_v rfl rfl rfl (Kw.R_pickf rfl rfl) ?_
        refine Kw.WL_nil ?_
        refine hK9 _ _ ?_; clear hK9 K9
        refine Kw.WC_sub (l' := [(0, .slice (some ⟨gb, o, none⟩) b.size cap), (5, .int .u64 n), (24, .bool false)]) (Kw.Sub.cons rfl (Kw.Sub.cons rfl (Kw.Sub.cons rfl Kw.Sub.nil))) ?_
        refine Kw.WC_false rfl ?_
        refine Kw.WC_skip ?_
        refine hK8 _ _ ?_; clear hK8 K8
        refine Kw.WC_seq (fun K14 hK14 => ?_)
        refine Kw.WC_region [some 26, some 27, some 28, some 6] rfl ?_
        refine Kw.WL_v rfl rfl rfl (Kw.R_move rfl) ?_
        refine Kw.WL_v rfl rfl rfl (Kw.R_conv (c := n) Tryd.underlying55 Tryd.underlying3 rfl (Kw.wrap_i64 (by omega))) ?_
        obtain ⟨e, he⟩ : ∃ x : Nat, (x : Int) = 12 + n := ⟨(12 + n).toNat, by omega⟩
        refine Kw.WL_v rfl rfl rfl (Kw.R_add (c := (e : Int)) rfl rfl (by rw [Kw.wrap_i64 (by omega)]; rw [he])) ?_
        refine Kw.WL_v rfl rfl rfl (Kw.R_assign rfl) ?_
        refine Kw.WL_nil ?_
        refine hK14 _ _ ?_; clear hK14 K14
        refine Kw.WC_seq (fun K15 hK15 => ?_)
        refine Kw.WC_still 8 [some 29, some 30, some 31, some 32, some 33, some 34, some 35, some 2, some 3] rfl (by kernel_rfl) (by kernel_rfl) ?_
        simp only [List.take_succ_cons, List.take_zero, List.drop_succ_cons, List.drop_zero]
        obtain ⟨w16, hww16⟩ : ∃ x : World, x = Go.World.drew w7 := ⟨_, rfl⟩
        rw [← hww16]
        replace A_gb : Kw.At w16 gb cur 5 := by rw [hww16]; exact A_gb
        replace HB : Below w.heap.size w w16 := by rw [hww16]; exact HB.drew
        clear hww16
        refine Kw.WS_v rfl rfl rfl (Kw.R_move rfl) ?_
        refine Kw.WS_v rfl rfl rfl (Kw.R_move rfl) ?_
        refine Kw.WS_v rfl rfl rfl (Kw.R_move rfl) ?_
        obtain ⟨op, hop⟩ : ∃ x : Nat, (if e = 12 then o else o + 12 * 1) = x := ⟨_, rfl⟩
        refine Kw.WS_v rfl rfl rfl (Kw.R_slicel (i := 12) (j := e) (m := e) (o' := op) rfl Tryd.underlying32 F.sz5 ⟨_, rfl⟩ ⟨_, rfl⟩ ⟨_, rfl⟩ (by omega) (by omega) (by omega) rfl (hop)) ?_
        refine Kw.WS_v rfl rfl rfl (Kw.R_move rfl) ?_
        refine Kw.WS_v rfl rfl rfl (Kw.R_move rfl) ?_
        obtain ⟨oq, hoq⟩ : ∃ x : Nat, (if cap = e then o else o + e * 1) = x := ⟨_, rfl⟩
        refine Kw.WS_v rfl rfl rfl (Kw.R_slicel (i := e) (j := b.size) (m := cap) (o' := oq) rfl Tryd.underlying32 F.sz5 ⟨_, rfl⟩ rfl rfl (by omega) (by omega) (by omega) rfl (hoq)) ?_
        refine Kw.WS_v rfl rfl rfl (Kw.R_assign rfl) ?_
        refine Kw.WS_nil ?_
        refine Kw.WL_v rfl rfl rfl (Kw.R_assign rfl) ?_
        refine Kw.WL_nil ?_
        refine hK15 _ _ ?_; clear hK15 K15
        refine Kw.WC_sub (l' := [(0, .slice (some ⟨gb, o, none⟩) b.size cap), (2, .slice (some ⟨gb, op, none⟩) (e - 12) (e - 12)), (3, .slice (some ⟨gb, oq, none⟩) (b.size - e) (cap - e))]) (Kw.Sub.cons rfl (Kw.Sub.cons rfl (Kw.Sub.cons rfl Kw.Sub.nil))) ?_
        refine Kw.WC_seq (fun K17 hK17 => ?_)
        refine Kw.WC_sched (fun ww => Kw.At ww gb cur 5 ∧ True) [(0, true), (1, true), (2, true), (3, true), (5, true), (6, true), (7, true), (4, false), (8, true), (9, true), (10, true), (11, true)] [some 36, some 37, some 38, some 39, some 40, some 41, some 42, some 43, some 44, some 2, some 3, some 4] rfl (by kernel_rfl) rfl (by kernel_rfl) ?_
        obtain ⟨w18, hww18⟩ : ∃ x : World, x = Go.World.drew w16 := ⟨_, rfl⟩
        rw [← hww18]
        replace A_gb : Kw.At w18 gb cur 5 := by rw [hww18]; exact A_gb
        replace HB : Below w.heap.size w w18 := by rw [hww18]; exact HB.drew
        clear hww18
        have hS : Kw.At w18 gb cur 5 ∧ True := ⟨A_gb, trivial⟩
        refine Kw.WX_take rfl rfl rfl rfl (fun _ _ _ h => h) hS (fun _ ⟨A_gb, _⟩ => Kw.R_move rfl) ?_
        refine Kw.WX_take rfl rfl rfl rfl (fun _ _ _ h => h) hS (fun _ ⟨A_gb, _⟩ => Kw.R_move rfl) ?_
        refine Kw.WX_take rfl rfl rfl rfl (fun _ _ _ h => h) hS (fun _ ⟨A_gb, _⟩ => Kw.R_move rfl) ?_
        refine Kw.WX_take rfl rfl rfl rfl (fun _ _ _ h => h) hS (fun _ ⟨A_gb, _⟩ => Kw.R_convbs (bs := (b.extract 12 e).data.toList) (r := (b.extract 12 e)) Tryd.underlying32 Tryd.underlying5 Tryd.underlying9 rfl A_gb (by rw [tl_len, ByteArray.size_extract]; omega) (conv_hc (bytes_piece hb (by omega) (by omega) (by omega) hop) (by rw [ByteArray.size_extract]; omega)) (rfl)) ?_
        refine Kw.WX_take rfl rfl rfl rfl (fun _ _ _ h => h) hS (fun _ ⟨A_gb, _⟩ => Kw.R_move rfl) ?_
        obtain ⟨o42, ho42⟩ : ∃ x : Nat, (if cap = 0 then o else o + 0 * 1) = x := ⟨_, rfl⟩
        refine Kw.WX_take rfl rfl rfl rfl (fun _ _ _ h => h) hS (fun _ ⟨A_gb, _⟩ => Kw.R_slicel (i := 0) (j := 12) (m := cap) (o' := o42) rfl Tryd.underlying32 F.sz5 rfl ⟨_, rfl⟩ rfl (by omega) (by omega) (by omega) rfl (ho42)) ?_
        refine Kw.WX_take rfl rfl rfl rfl (fun _ _ _ h => h) hS (fun _ ⟨A_gb, _⟩ => Kw.R_convbs (bs := (b.extract 0 12).data.toList) (r := (b.extract 0 12)) Tryd.underlying32 Tryd.underlying5 Tryd.underlying9 rfl A_gb (by rw [tl_len, ByteArray.size_extract]; omega) (conv_hc (bytes_piece hb (by omega) (by omega) (by omega) ho42) (by rw [ByteArray.size_extract]; omega)) (rfl)) ?_
        refine Kw.WX_callc rfl rfl rfl rfl rfl F.cl34 rfl (Mk (b.extract 12 e) (by rw [ByteArray.size_extract]; omega) _ HB) ?_; intro w19 bw19
        clear hS
        replace A_gb := A_gb.call bw19
        replace HB := Kw.Below.then HB (Nat.le_refl _) bw19
        have hS : Kw.At w19 gb cur 5 ∧ True := ⟨A_gb, trivial⟩
        clear bw19
        refine ⟨hS, ?_⟩
        obtain ⟨z44, hz44⟩ : ∃ z : Bool, decide ((hd (b.extract 12 e)) = (b.extract 0 12)) = z := ⟨_, rfl⟩
        refine Kw.WX_take rfl rfl rfl rfl (fun _ _ _ h => h) hS (fun _ ⟨A_gb, _⟩ => Kw.R_eqs rfl rfl hz44) ?_
        refine Kw.WX_take rfl rfl rfl rfl (fun _ _ _ h => h) hS (fun _ ⟨A_gb, _⟩ => Kw.R_assign rfl) ?_
        refine Kw.WX_take rfl rfl rfl rfl (fun _ _ _ h => h) hS (fun _ ⟨A_gb, _⟩ => Kw.R_assign rfl) ?_
        refine Kw.WX_take rfl rfl rfl rfl (fun _ _ _ h => h) hS (fun _ ⟨A_gb, _⟩ => Kw.R_assign rfl) ?_
        refine Kw.WX_nil ?_
        clear hS
        refine hK17 _ _ ?_; clear hK17 K17
        refine Kw.WC_sub (l' := [(2, .slice (some ⟨gb, op, none⟩) (e - 12) (e - 12)), (3, .slice (some ⟨gb, oq, none⟩) (b.size - e) (cap - e)), (4, .bool z44)]) (Kw.Sub.cons rfl (Kw.Sub.cons rfl (Kw.Sub.cons rfl Kw.Sub.nil))) ?_
        refine Kw.WC_ret ?_
        have he : e = 12 + (num4 b).toNat := by omega
        have hL := cut_last b (by omega) (by omega) (by omega)
        rw [← he] at hL
        refine Kw.post_ret3 rfl rfl rfl rfl ⟨_, rfl, ⟨.slice (some ⟨gb, op, none⟩) (e - 12) (e - 12), .slice (some ⟨gb, oq, none⟩) (b.size - e) (cap - e), ?_, fun p hp => ?_⟩, HB⟩
        · rw [hL, ← hz44]; by_cases h : hd (b.extract 12 e) = b.extract 0 12
          · rw [if_pos h, decide_eq_true h]; rfl
          · rw [if_neg h, decide_eq_false h]; rfl
        · have hp2 : p = b.extract 12 e := by
            rw [hL] at hp; by_cases h : hd (b.extract 12 e) = b.extract 0 12
            · rw [if_pos h] at hp; exact (Option.some.inj hp).symm
            · rw [if_neg h] at hp; cases hp
          have hps : p.size = e - 12 := by rw [hp2, ByteArray.size_extract]; omega
          refine ⟨op, oq, by rw [hps], by rw [hps, show 12 + (e - 12) = e by omega], ?_, ?_⟩
          · rw [hps, hp2]; exact bytes_piece hb (by omega) (by omega) (by omega) hop
          · rw [hps, show 12 + (e - 12) = e by omega]; exact bytes_piece hb (by omega) (by omega) (by omega) hoq
end Go.Proofs.YtngkedoaijlnlaaDoor.Fn
