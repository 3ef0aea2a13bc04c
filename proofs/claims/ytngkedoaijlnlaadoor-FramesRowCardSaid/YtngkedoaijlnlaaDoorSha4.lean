/- The walk of SHA-256: the hash of a text. The text has at most 1000000 bytes, and the tables lie in their variables. -/
import Derived.Lib.BufferWrite
import Derived.Lib.Hide
import Derived.Test.YtngkedoaijlnlaaDoorSha3
namespace Go.Proofs.YtngkedoaijlnlaaDoor.Fn
open Go.Proofs Go.RowKit Go.Proofs.YtngkedoaijlnlaaDoorW.PrintWords Go.Proofs.YtngkedoaijlnlaaDoorW.PrintLast Go.Proofs.YtngkedoaijlnlaaDoorW.PrintMore
attribute [local go_sem] max2_int min2_int max_two min_two max_three min_three max_four min_four
set_option linter.unusedVariables false
set_option linter.unusedSimpArgs false
theorem run_loadVar_tab {P : Program} (w : World) (g : Nat) (ty : TypeId) (cs : Array Value) (d : TypeDesc) (hc : ∀ (i : Nat) (v : Value), cs[i]? = some v → w.cell? ⟨g, i, none⟩ = some v)
    (hu : P.underlying ty = some d) (hd : (match d with | .struct _ | .array _ _ => true | _ => false) = true) (hi : (P.info? ty).map (·.size) = some cs.size) :
    (loadVar ty ⟨g, 0, none⟩).run P w = .ok (.agg cs) w := by
  have hl : (loadCells ⟨g, 0, none⟩ cs.toList.length).run P w = .ok cs.toList.toArray w :=
    run_loadCells_list (P := P) w ⟨g, 0, none⟩ cs.toList (fun j v hv => by
      have hadd : (⟨g, 0, none⟩ : Addr).add j = ⟨g, j, none⟩ := by unfold Addr.add; split <;> simp_all
      rw [hadd]
      exact hc j v (by simpa using hv))
  cases hq : P.info? ty with
  | none => simp [hq] at hi
  | some i =>
    have hs : i.size = cs.size := by simpa [hq] using hi
    have hagg : (isAgg ty).run P w = .ok true w := by
      unfold isAgg
      rw [Sem.run_bind, run_underlying hu w]
      cases d <;> simp_all
    simp only [Array.length_toList, Array.toArray_toList] at hl
    simp [loadVar, Sem.run_bind, hagg, sizeOf, typeInfo, hq, hs, hl]
theorem wpList_load_tab {P : Program} {ops : Array Oper} {rest : List Oper} {o : Oper} {a : Act} {w : World} {Q : Exit → Act → World → Prop} (hgd : o.guard = none) (ty : TypeId) (x : Operand) (ho : o.op = .load ty x)
    (g : Nat) (hx : a.eval x = .pointer (some ⟨g, 0, none⟩)) (cs : Array Value) (d : TypeDesc) (hc : ∀ (i : Nat) (v : Value), cs[i]? = some v → w.cell? ⟨g, i, none⟩ = some v)
    (hu : P.underlying ty = some d) (hd : (match d with | .struct _ | .array _ _ => true | _ => false) = true) (hi : (P.info? ty).map (·.size) = some cs.size)
    (h : wpList P ops Q rest (a.put o.dst (.agg cs)) w) : wpList P ops Q (o :: rest) a w :=
  wpList_plain hgd fun K hK => by
    unfold Oper.wp execOp
    simp only [ho, hx, Instr.loadAt, Instr.sureAddr, Sem.run_bind, Sem.run_pure, Result.andThen_ok, run_loadVar_tab w g ty cs d hc hu hd hi]
    exact hK _ _ h
theorem tab_cells {w : World} {g : Nat} {l : List Int} (h : Tab w g l) (i : Nat) (v : Value) (hv : (cells l)[i]? = some v) : w.cell? ⟨g, i, none⟩ = some v := by
  rcases Nat.lt_or_ge i l.length with hi | hi
  · rw [cells_get l i hi] at hv; rw [← hv]; exact h i hi
  · have : (cells l).size ≤ i := by rw [cells_size]; exact hi
    rw [Array.getElem?_eq_none this] at hv; cases hv
def cells8 (l : List Int) : Array Value := (l.map (Value.int .u8)).toArray
theorem cells8_size (l : List Int) : (cells8 l).size = l.length := by unfold cells8; simp
theorem cells8_one (l : List Int) : (cells8 l).all (·.oneCell') = true := by
  rw [Array.all_eq_true_iff_forall_mem]
  intro v hv
  unfold cells8 at hv
  simp only [List.mem_toArray, List.mem_map] at hv
  obtain ⟨x, _, rfl⟩ := hv
  rfl
def fillS (s : ByteArray) : ByteArray := s ++ ⟨#[128]⟩ ++ ⟨(Lib.repeatL [0] (zerosOf s.size)).toArray⟩ ++ strOfNums (putV (s.size * 8) 8)
def blockN (s : ByteArray) : Nat := (s.size + 9 + zerosOf s.size) / 64
theorem fillS_size (s : ByteArray) : (fillS s).size = 64 * blockN s := by
  unfold fillS
  rw [ByteArray.size_append, ByteArray.size_append, ByteArray.size_append, strOfNums_size, put8_length]
  have e1 : (⟨#[128]⟩ : ByteArray).size = 1 := rfl
  have e2 : (⟨(Lib.repeatL [0] (zerosOf s.size)).toArray⟩ : ByteArray).size = zerosOf s.size := by
    show (Lib.repeatL [0] (zerosOf s.size)).toArray.size = _
    rw [List.size_toArray, repeat_length]; simp
  rw [e1, e2]; unfold blockN zerosOf; omega
def mixL (K : List Int) (blk : ByteArray) (v : List Int) : List Int := addL (roundsL K (spreadL blk 64) v 64) v 8
def blocksL (K : List Int) (T : ByteArray) (v : List Int) : Nat → List Int
  | 0 => v
  | k + 1 => mixL K (T.extract (64 * k) (64 * k + 64)) (blocksL K T v k)
theorem addL_nums (v was : List Int) (hv : Nums v) (k : Nat) : Nums (addL v was k) := by
  induction k with
  | zero => exact hv
  | succ k ih =>
    intro x hx
    simp only [addL] at hx
    rcases List.mem_or_eq_of_mem_set hx with h | rfl
    · exact ih x h
    · omega
theorem blocksL_length (K : List Int) (T : ByteArray) (v : List Int) (h : v.length = 8) (k : Nat) : (blocksL K T v k).length = 8 := by
  induction k with
  | zero => exact h
  | succ k ih => exact (addL_length _ _ _).trans (roundsL_length _ _ _ ih 64)
theorem blocksL_nums (K : List Int) (T : ByteArray) (v : List Int) (h : v.length = 8) (hn : Nums v) (k : Nat) : Nums (blocksL K T v k) := by
  induction k with
  | zero => exact hn
  | succ k ih => exact addL_nums _ _ (roundsL_nums _ _ _ (blocksL_length K T v h k) ih 64) 8
def outL (v : List Int) : Nat → List Int
  | 0 => []
  | k + 1 => outL v k ++ be 4 (v.getD k 0)
theorem outL_length (v : List Int) (k : Nat) : (outL v k).length = 4 * k := by
  induction k with
  | zero => rfl
  | succ k ih => simp only [outL, List.length_append, ih, be_length]; omega
def sumV (K H : List Int) (s : ByteArray) : List Int := outL (blocksL K (fillS s) H (blockN s)) 8
theorem extract_extract (T : ByteArray) (a b d : Nat) : (T.extract a T.size).extract b (b + d) = T.extract (a + b) (a + b + d) := by
  apply ByteArray.ext
  rw [ByteArray.data_extract, ByteArray.data_extract, ByteArray.data_extract, Array.extract_extract]
  apply Array.ext
  · simp only [Array.size_extract]
    show min (min (a + (b + d)) T.size) T.data.size - (a + b) = min (a + b + d) T.data.size - (a + b)
    have : T.size = T.data.size := rfl
    omega
  · intro i h1 h2
    simp only [Array.getElem_extract]
theorem extract_rest (T : ByteArray) (a b : Nat) : (T.extract a T.size).extract b (T.extract a T.size).size = T.extract (a + b) T.size := by
  apply ByteArray.ext
  rw [ByteArray.data_extract, ByteArray.data_extract, ByteArray.data_extract, Array.extract_extract]
  have e : (T.extract a T.size).size = T.size - a := by rw [ByteArray.size_extract]; simp
  rw [e]
  apply Array.ext
  · simp only [Array.size_extract]
    have : T.size = T.data.size := rfl
    omega
  · intro i h1 h2
    simp only [Array.getElem_extract]
theorem wpStill_load_row {P : Program} {ops : Array Oper} {rest : List Oper} {o : Oper} {a : Act} {w : World} {Q : Act → Prop} (hgd : o.guard = none) (ty : TypeId) (x : Operand) (ho : o.op = .load ty x)
    (g : Nat) (hx : a.eval x = .pointer (some ⟨g, 0, none⟩)) (t : TypeId) (cs : Array Value) (fr : Nat × Nat) (d : TypeDesc) (hg : w.heap[g]? = some (.cells cs t fr))
    (hu : P.underlying ty = some d) (hd : (match d with | .struct _ | .array _ _ => true | _ => false) = true) (hi : (P.info? ty).map (·.size) = some cs.size)
    (h : wpStill P ops w Q rest (a.put o.dst (.agg cs))) : wpStill P ops w Q (o :: rest) a := by
  refine wpStill_step (fun K hK => ?_)
  have hw : Region.wanted o (yielded ops a.tmps) = true := by simp [Region.wanted, hgd]
  rw [if_pos hw]
  unfold Oper.still execOp
  simp only [ho, hx, Instr.loadAt, Instr.sureAddr, Sem.run_bind, Sem.run_pure, Result.andThen_ok, run_loadVar_row w g t ty cs fr d hg hu hd hi]
  exact (Oper.stillUpon_value o a w K _).mpr (hK _ h)
theorem bytes_nil {t : ByteArray} (q : t.toList = []) : t.size = 0 := by
  rw [ByteArray.toList_eq] at q
  have := congrArg List.length q
  simpa using this
theorem empty_toList : ByteArray.empty.toList = [] := by rw [ByteArray.toList_eq]; rfl
def pad32 (l : List Int) : List Int := l ++ List.replicate (32 - l.length) 0
theorem slice_to (s : ByteArray) (b : Nat) (hb : b ≤ s.size) (wx : World) : (Instr.slice 9 (.string s) none (some (.int .i64 (b : Int))) none).run Tryd.prog wx = .ok (.string (s.extract 0 b)) wx := by
  rw [run_slice_string_to_if _ _ _ _ _ Tryd.underlying9, if_pos ⟨by omega, by omega⟩, Int.toNat_natCast]
theorem slice_from (s : ByteArray) (b : Nat) (hb : b ≤ s.size) (wx : World) : (Instr.slice 9 (.string s) (some (.int .i64 (b : Int))) none none).run Tryd.prog wx = .ok (.string (s.extract b s.size)) wx := by
  rw [run_slice_string_from_if _ _ _ _ _ Tryd.underlying9, if_pos ⟨by omega, by omega⟩, Int.toNat_natCast]
theorem be_range (k : Nat) : ∀ (x : Int), ∀ n ∈ be k x, 0 ≤ n ∧ n ≤ 255 := by
  induction k with
  | zero => intro x n h; simp [be] at h
  | succ k ih =>
    intro x n h
    simp only [be, List.mem_append, List.mem_singleton] at h
    rcases h with h | rfl
    · exact ih _ n h
    · omega
theorem pad32_length (l : List Int) (h : l.length ≤ 32) : (pad32 l).length = 32 := by unfold pad32; simp; omega
theorem byteCells_be (x : Int) (k : Nat) : Lib.byteCells (strOfNums (be k x)).data.toList = (be k x).map (Value.int .u8) := by
  unfold Lib.byteCells
  rw [strOfNums_data, List.map_map]
  refine List.map_congr_left fun n hn => ?_
  have r := be_range k x n hn
  simp only [Function.comp_apply]
  congr 1
  have : (UInt8.ofNat n.toNat).toNat = n.toNat % 256 := by simp
  rw [this]; omega
theorem out_next (V : List Int) (j : Nat) (hj : j < 8) : ((cells8 (pad32 (outL V j))).toList.take (4 * j) ++ Lib.byteCells (strOfNums (putV (V.getD j 0) 4)).data.toList ++ (cells8 (pad32 (outL V j))).toList.drop (4 * j + 4)).toArray = cells8 (pad32 (outL V (j + 1))) := by
  have lo := outL_length V j
  have e4 : putV (V.getD j 0) 4 = be 4 (V.getD j 0) := by unfold putV; rw [if_pos (by omega)]; rfl
  rw [e4, byteCells_be]
  unfold cells8 pad32
  simp only [outL, List.map_append, List.map_replicate]
  have l1 : ((outL V j).map (Value.int .u8)).length = 4 * j := by simp [lo]
  rw [List.take_append_of_le_length (by omega), List.take_of_length_le (by omega), List.drop_append, List.drop_of_length_le (by omega)]
  simp only [List.nil_append, List.drop_replicate, List.length_append, be_length, l1, lo]
  congr 3
  omega
theorem slice_hash (g j : Nat) (hj : j < 8) (wx : World) : (Instr.sliceAt 24 (.pointer (some ⟨g, 0, none⟩)) (some (.int .i64 (4 * (j : Int)))) none none).run Tryd.prog wx = .ok (.slice (some ⟨g, 4 * j, none⟩) (32 - 4 * j) (32 - 4 * j)) wx := by
  have h3 : ¬ 32 = 4 * j := by omega
  have h4 : (⟨g, 0, none⟩ : Addr).add (4 * j) = ⟨g, 4 * j, none⟩ := add_plain _ _
  have h5 : (4 * (j : Int)).toNat = 4 * j := by omega
  simp [Instr.sliceAt, Instr.sureAddr, run_underlying Tryd.underlying24, Instr.sliceBounds, Instr.sliceBound, asIntOf, Tryd.sizeOf5, sliced, h3, h4, h5, go_sem]
  intro h
  exact absurd (h (by omega)) (by omega)
set_option maxHeartbeats 1000000 in
set_option maxRecDepth 100000 in
theorem sum_c (s : ByteArray) (hs : s.size ≤ 1000000) (K H : List Int) (hK : K.length = 64) (hH : H.length = 8) (hHn : Nums H) (w : World) (h0 : Tab w 0 H) (h1 : Tab w 1 K) :
    Calls Tryd.prog 11 #[.string s] w fun e w' => e = .returned (.agg (cells8 (sumV K H s))) ∧ Below w.heap.size w w' := by
  have fc := Lib.hid fun w => filled_c s hs w
  have hT := fillS_size s
  have hn : blockN s ≤ 20000 := by unfold blockN zerosOf; omega
  obtain ⟨T, hTd⟩ : ∃ T, T = fillS s := ⟨_, rfl⟩
  have fc2 : Hid (∀ w, Calls Tryd.prog 24 #[.string s] w fun e w' => e = .returned (.string T) ∧ Below w.heap.size w w') := by rw [hTd]; exact fc
  rw [← hTd] at hT
  obtain ⟨n, hnd⟩ : ∃ n, n = blockN s := ⟨_, rfl⟩
  obtain ⟨U, hU⟩ : ∃ U, U = sumV K H s := ⟨_, rfl⟩
  have hU2 := hU
  unfold sumV at hU2
  rw [← hTd, ← hnd] at hU2
  rw [← hnd] at hT hn
  rw [← hU]
  have HU := Lib.hid hU2
  have HT := Lib.hid hT
  have H0 := Lib.hid h0
  have H1 := Lib.hid h1
  have HHn := Lib.hid hHn
  have HHl := Lib.hid hH
  have HKl := Lib.hid hK
  have hT1 : T.size ≤ 64 * n := by omega
  have hT2 : 64 * n ≤ T.size := by omega
  have hi8 := Lib.hid (show (Tryd.prog.info? 51).map (·.size) = some (cells H).size by rw [cells_size, hH]; kernel_rfl)
  obtain ⟨C0, hC0⟩ : ∃ C0, C0 = cells H := ⟨_, rfl⟩
  rw [← hC0] at hi8
  have Ho8 := Lib.hid (show C0.all (·.oneCell') = true by rw [hC0]; exact cells_one _)
  have Hs8 := Lib.hid (show C0.size = 8 by rw [hC0, cells_size, hH])
  have lt0 := block_lt_of_cell (h0 0 (by omega))
  have lt1 := block_lt_of_cell (h1 0 (by omega))
  have hc0 := Lib.hid (fun (o : Obj) (i : Nat) (v : Value) (hv : C0[i]? = some v) => (show (w.alloc o).cell? ⟨0, i, none⟩ = some v from pw_cell_below (below_alloc (Below.refl _ _) o) (tab_cells h0 i v (by rw [← hC0]; exact hv))))
  have HC0 := Lib.hid hC0
  clear h0 h1 hHn hH hK hT hU hU2 hnd hTd fc hC0 hs
  have hsz1 : ∀ o : Obj, w.heap.size + 1 = (w.alloc o).heap.size := fun o => by simp only [World.alloc, Array.size_push]
  have Hsz1 := Lib.hid hsz1
  clear hsz1
  go_enter Tryd.func11, Tryd.ntmps11
  go_wp2_with (first | (refine wpList_load_tab rfl 51 (.global 0) rfl 0 rfl C0 _ (hc0.out _) Tryd.underlying51 rfl hi8.out ?_) | (refine wpList_store_new rfl 51 (.tmp 3) (.tmp 8) rfl (w.heap.size + 1) (Hsz1.out _) C0 rfl rfl 51 _ hi8.out (Eq.symm Hs8.out) Ho8.out ?_))
  refine (fc2.out _).mono ?_; rintro e w1 ⟨rfl, b1⟩
  obtain ⟨Z, hZ⟩ : ∃ Z : Array Value, Z = cells8 (List.replicate 32 0) := ⟨_, rfl⟩
  have a0 : w1.heap[w.heap.size]? = some (.cells Z 24 (0, 0)) := by rw [hZ]; exact heap_below b1 (heap_keep _ (heap_alloc_new _ _))
  have a1 : w1.heap[w.heap.size + 1]? = some (.cells C0 51 (0, 0)) := heap_below b1 (heap_new2 _ _ _)
  have B1 : Below w.heap.size w w1 := below_then (below_alloc (below_alloc (Below.refl _ _) _) _) (by simp only [World.alloc, Array.size_push]; omega) b1
  have A0 := Lib.hid a0
  have A1 := Lib.hid a1
  have HB := Lib.hid B1
  have HZ := Lib.hid hZ
  clear a0 a1 B1 b1 hZ
  have start : Hid (T = T.extract (64 * 0) T.size) := Lib.hid (by simp)
  go_wp2_with fail
  go_loopw [4] (fun t wr => ∃ k : Nat, k ≤ n ∧ t = .string (T.extract (64 * k) T.size) ∧ Hid (wr.heap[w.heap.size]? = some (.cells Z 24 (0, 0))) ∧ Hid (wr.heap[w.heap.size + 1]? = some (.cells (cells (blocksL K T H k)) 51 (0, 0))) ∧ Hid (Below w.heap.size w wr)) (fun t _ => match t with | .string x => x.size | _ => 0)
  case atStart => exact ⟨0, by omega, by rw [← start.out], A0, by rw [HC0.out] at A1; exact A1, HB⟩
  case round =>
    clear A0 A1 HB start
    obtain ⟨k, hk, rfl, A0, A1, HB⟩ := hrel
    have lb := blocksL_length K T H HHl.out k
    have nb := blocksL_nums K T H HHl.out HHn.out k
    obtain ⟨V, hV⟩ : ∃ V, V = blocksL K T H k := ⟨_, rfl⟩
    rw [← hV] at A1 lb nb
    obtain ⟨C, hC⟩ : ∃ C, C = cells V := ⟨_, rfl⟩
    have sC : C.size = 8 := by rw [hC, cells_size, lb]
    have HsC := Lib.hid sC
    have HiC := Lib.hid (show (Tryd.prog.info? 51).map (·.size) = some C.size by rw [sC]; kernel_rfl)
    have HoC := Lib.hid (show C.all (·.oneCell') = true by rw [hC]; exact cells_one _)
    rw [← hC] at A1
    have HC := Lib.hid hC
    have HV := Lib.hid hV
    have Hlb := Lib.hid lb
    have Hnb := Lib.hid nb
    obtain ⟨t, ht⟩ : ∃ t, t = T.extract (64 * k) T.size := ⟨_, rfl⟩
    have ts : t.size = T.size - 64 * k := by rw [ht, ByteArray.size_extract]; simp
    rw [← ht]
    have Ht := Lib.hid ht
    clear hV hC sC lb nb ht
    by_cases hkn : k < n
    · have t64 : 64 ≤ t.size := by omega
      have te : (!t.toList.isEmpty) = true := by
        cases q : t.toList with
        | nil => have z := bytes_nil q; omega
        | cons _ _ => rfl
      have hs : ∀ wx, (Instr.slice 9 (.string t) none (some (.int .i64 64)) none).run Tryd.prog wx = .ok (.string (t.extract 0 64)) wx := fun wx => slice_to t 64 t64 wx
      clear ts
      go_wp2_with fail
      refine region_tail 3 (by kernel_rfl) (by kernel_rfl) ?_
      intro w2 hw2
      simp only [List.take_succ_cons, List.take_zero, List.drop_succ_cons, List.drop_zero]
      have a0 : w2.heap[w.heap.size]? = some (.cells Z 24 (0, 0)) := by rw [hw2.out]; exact A0.out
      have a1 : w2.heap[w.heap.size + 1]? = some (.cells C 51 (0, 0)) := by rw [hw2.out]; exact A1.out
      have B2 := Lib.hid (show Below w.heap.size w w2 by rw [hw2.out]; exact below_drew HB.out)
      have A0' := Lib.hid a0
      have A1' := Lib.hid a1
      clear a0 a1
      refine wpStill_load_row rfl 51 (.tmp 3) rfl (w.heap.size + 1) rfl 51 C (0, 0) _ A1'.out Tryd.underlying51 rfl HiC.out ?_
      repeat still_step
      try refine wpStill_nil ?_
      obtain ⟨V', hV'⟩ : ∃ V', V' = blocksL K T H (k + 1) := ⟨_, rfl⟩
      have eV' : V' = mixL K (t.extract 0 64) V := by
        rw [hV', HV.out, Ht.out]
        show mixL K (T.extract (64 * k) (64 * k + 64)) _ = _
        rw [show (64 : Nat) = 0 + 64 from rfl, extract_extract]; rfl
      obtain ⟨C', hC'⟩ : ∃ C', C' = cells V' := ⟨_, rfl⟩
      have mc : Hid (Calls Tryd.prog 25 #[.agg C, .string (t.extract 0 64)] w2 fun e w' => e = .returned (.agg C') ∧ Below w2.heap.size w2 w') := by
        have m := mix_c V Hlb.out Hnb.out K HKl.out (t.extract 0 64) (by rw [ByteArray.size_extract]; omega) w2 (tab_below H1.out B2.out)
        rw [← HC.out] at m
        have e : addL (roundsL K (spreadL (t.extract 0 64) 64) V 64) V 8 = V' := eV'.symm
        rw [e, ← hC'] at m
        exact m
      have lV' : V'.length = 8 := by rw [hV']; exact blocksL_length K T H HHl.out (k + 1)
      have sC' : C'.size = 8 := by rw [hC', cells_size, lV']
      have HsC' := Lib.hid sC'
      have HiC' := Lib.hid (show (Tryd.prog.info? 51).map (·.size) = some C'.size by rw [sC']; kernel_rfl)
      have HoC' := Lib.hid (show C'.all (·.oneCell') = true by rw [hC']; exact cells_one _)
      have HC' := Lib.hid hC'
      have HV' := Lib.hid hV'
      have hCC := Lib.hid (sC'.trans HsC.out.symm).symm
      clear eV' hV' hC' lV' sC'
      have sf : ∀ wx, (Instr.slice 9 (.string t) (some (.int .i64 64)) none none).run Tryd.prog wx = .ok (.string (t.extract 64 t.size)) wx := fun wx => slice_from t 64 t64 wx
      go_wp2_with fail
      refine mc.out.mono ?_; rintro e w3 ⟨rfl, b3⟩
      have a0 : w3.heap[w.heap.size]? = some (.cells Z 24 (0, 0)) := heap_below b3 A0'.out
      have a1 : w3.heap[w.heap.size + 1]? = some (.cells C 51 (0, 0)) := heap_below b3 A1'.out
      have B3 := Lib.hid (below_then B2.out B2.out.size b3)
      have A0 := Lib.hid a0
      have A1 := Lib.hid a1
      clear a0 a1 b3
      go_wp2_with (refine wpList_store_row rfl 51 (.tmp 3) (.tmp 18) rfl (w.heap.size + 1) C' rfl rfl 51 C A1.out HiC'.out hCC.out HoC'.out ?_)
      refine ⟨⟨k + 1, by omega, by rw [Ht.out, extract_rest]; rfl, ?_, ?_, ?_⟩, ?_⟩
      · rw [setRow_other _ _ _ _ (by omega)]; exact A0.out
      · refine (setRow_heap _ _ _ _ 51 (0, 0) A1.out).trans ?_
        rw [HC'.out, HV'.out]
      · exact below_setRow B3.out (by omega) _
      · show (t.extract 64 t.size).size < t.size
        rw [ByteArray.size_extract]; omega
    · have te : (!t.toList.isEmpty) = false := by
        have z : t.size = 0 := by omega
        have e : t = ByteArray.empty := by apply ByteArray.ext; exact Array.eq_empty_of_size_eq_zero z
        rw [e, empty_toList]; rfl
      obtain rfl : k = n := by omega
      have bsz : Hid (w.heap.size + 1 < wr.heap.size) := Lib.hid (Array.getElem?_eq_some_iff.1 A1.out).1
      go_wp2_with (refine wpList_load_row rfl 51 (.tmp 3) rfl (w.heap.size + 1) rfl 51 C (0, 0) _ (heap_keep _ A1.out) Tryd.underlying51 rfl HiC.out ?_)
      obtain ⟨wb, hwb⟩ : ∃ wb : World, wb = wr := ⟨_, rfl⟩
      rw [← hwb] at A0 A1 HB bsz ⊢
      clear hwb
      have sg : Hid (w.heap.size + 1 < wb.heap.size) := bsz
      have sg1 := sg.out
      have hb0 : Hid ((wb.alloc (.cells (cells8 (pad32 (outL V 0))) 24)).heap[wb.heap.size]? = some (.cells (cells8 (pad32 (outL V 0))) 24 (0, 0))) := Lib.hid (heap_alloc_new _ _)
      go_loopw [20] (fun i wr => ∃ j : Nat, j ≤ 8 ∧ i = .int .i64 j ∧ Hid (wr.heap[w.heap.size]? = some (.cells Z 24 (0, 0))) ∧ Hid (wr.heap[wb.heap.size]? = some (.cells (cells8 (pad32 (outL V j))) 24 (0, 0))) ∧ Hid (Below w.heap.size w wr)) (fun i _ => 8 - (intOf i).toNat)
      case atStart => exact ⟨0, by omega, rfl, Lib.hid (heap_keep _ A0.out), hb0, Lib.hid (HB.out.alloc HB.out.size _)⟩
      case round =>
        obtain ⟨j, hj, rfl, A0, A1, HB⟩ := hrel
        by_cases h8 : j < 8
        · have hix := fun wx => run_index_u32 C 8 51 Tryd.underlying51 j h8 (.int .u32 (V.getD j 0)) (by rw [HC.out]; exact cells_get V j (by rw [Hlb.out]; exact h8)) wx
          have vr := getD_range V Hnb.out j
          obtain ⟨x, hx⟩ : ∃ x, x = V.getD j 0 := ⟨_, rfl⟩
          rw [← hx] at hix vr
          have Hx := Lib.hid hx
          clear hx hb0
          have pc := Lib.hid fun w => put_c x vr.1 4 w
          have a4 : IntKind.i64.wrap (4 * (j : Int)) = 4 * (j : Int) := IntWalk.i64_in _ (by omega)
          have hsl := fun wx => slice_hash wb.heap.size j h8 wx
          go_wp2_with fail
          have ex : IntKind.u64.wrap x = x := wu64_of vr.1 (by omega)
          obtain ⟨S, hS⟩ : ∃ S, S = strOfNums (putV x 4) := ⟨_, rfl⟩
          have s4 : S.size = 4 := by rw [hS, strOfNums_size]; unfold putV; rw [if_pos (by omega)]; exact be_length _ _
          rw [← hS] at pc
          have HS := Lib.hid hS
          have H4 := Lib.hid s4
          clear hS s4
          have pcc : Hid (∀ wx : World, wx.heap = wr.heap → Calls Tryd.prog 26 #[.int .u64 x, .int .i64 4] wx fun e w' => e = .returned (.string S) ∧ Below wx.heap.size wx w' ∧ (Builtin.copy_ #[32, 9] 3 #[.slice (some ⟨wb.heap.size, 4 * j, none⟩) (32 - 4 * j) (32 - 4 * j), .string S]).run Tryd.prog w' = .ok (goInt 4) (w'.setRow wb.heap.size (cells8 (pad32 (outL V (j + 1)))))) := Lib.hid fun wx hwx => (pc.out wx).mono fun e w' ⟨he, hb⟩ => ⟨he, hb, by
            have g3 := heap_below hb (by rw [hwx]; exact A1.out)
            have cp := Lib.run_copy_row_string (P := Tryd.prog) w' 32 9 3 5 wb.heap.size (4 * j) (32 - 4 * j) (32 - 4 * j) S _ 24 Tryd.underlying32 (by kernel_rfl) g3 (by rw [H4.out]; omega) (by rw [H4.out, cells8_size, pad32_length _ (by rw [outL_length]; omega)]; omega)
            rw [cp, H4.out, HS.out, Hx.out, out_next V j h8]
            rfl⟩
          go_region_with ((go_at_call 26; refine (pcc.out _ ?_).mono ?_; exact rfl; rintro e w3 ⟨rfl, b3, cp⟩))
          go_wp2_with fail
          have g3 : w3.heap[wb.heap.size]? = some (.cells (cells8 (pad32 (outL V j))) 24 (0, 0)) := heap_below b3 A1.out
          have B3 : Below w.heap.size w w3 := below_then (below_drew HB.out) HB.out.size b3
          refine ⟨⟨j + 1, by omega, by go_num, ?_, ?_, ?_⟩, by simp [intOf]; omega⟩
          · rw [setRow_other _ _ _ _ (by omega)]; exact heap_below b3 A0.out
          · exact setRow_heap _ _ _ _ 24 (0, 0) g3
          · exact below_setRow B3 (by omega) _
        · obtain rfl : j = 8 := by omega
          have l8 := outL_length V 8
          have e8 : pad32 (outL V 8) = U := by unfold pad32; rw [l8, HU.out, HV.out]; simp
          rw [e8] at A1
          have lU : U.length = 32 := by rw [HU.out]; exact outL_length _ 8
          obtain ⟨D, hD⟩ : ∃ D, D = cells8 U := ⟨_, rfl⟩
          have sD : D.size = 32 := by rw [hD, cells8_size, lU]
          have HiD := Lib.hid (show (Tryd.prog.info? 24).map (·.size) = some D.size by rw [sD]; kernel_rfl)
          have HoD := Lib.hid (show D.all (·.oneCell') = true by rw [hD]; exact cells8_one _)
          have hzD := Lib.hid (show Z.size = D.size by rw [sD, HZ.out, cells8_size]; rfl)
          rw [← hD] at A1
          have HD := Lib.hid hD
          clear hD sD lU e8 l8 hb0
          go_wp2_with (first | (refine wpList_load_row rfl 24 (.tmp 5) rfl wb.heap.size rfl 24 D (0, 0) _ A1.out Tryd.underlying24 rfl HiD.out ?_) | (refine wpList_store_row rfl 24 (.tmp 2) (.tmp 32) rfl w.heap.size D rfl rfl 24 Z A0.out HiD.out hzD.out HoD.out ?_))
          have hR := setRow_heap wr w.heap.size _ D 24 (0, 0) A0.out
          exact bodyPost_ret (v := .agg D) (results_cell_row (p := 2) (ty := 24) rfl _ _ w.heap.size 24 D (0, 0) _ rfl hR Tryd.underlying24 rfl HiD.out) rfl ⟨by rw [HD.out], below_setRow HB.out (Nat.le_refl _) D⟩
end Go.Proofs.YtngkedoaijlnlaaDoor.Fn
