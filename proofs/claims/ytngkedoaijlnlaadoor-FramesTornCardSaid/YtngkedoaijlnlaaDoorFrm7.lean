/- FramesTorn and FramesLong answer true. -/
import Derived.Test.YtngkedoaijlnlaaDoorFrm4
import Derived.Deep.OwnRows
import Derived.Laws.OwnMore
namespace Go.Proofs.YtngkedoaijlnlaaDoor.Fn
open Go Go.Proofs Go.RowKit Go.Proofs.YtngkedoaijlnlaaDoorW.PrintWords Go.Proofs.YtngkedoaijlnlaaDoorW.PrintLast Go.Proofs.YtngkedoaijlnlaaDoorW.PrintMore
set_option linter.unusedVariables false
set_option linter.unusedSimpArgs false
/-! Zeros -/
def zerosB (n : Nat) : ByteArray := ⟨(List.replicate n (0 : UInt8)).toArray⟩
theorem zerosB_list (n : Nat) : (zerosB n).data.toList = List.replicate n 0 := rfl
theorem zerosB_size (n : Nat) : (zerosB n).size = n := by show (List.replicate n (0 : UInt8)).toArray.size = n; simp
theorem mk_zeros (n : Nat) (h : n ≤ 1000000) (w : World) : (Instr.makeSlice 32 (.int .i64 (n : Int)) (.int .i64 (n : Int))).run Tryd.prog w = .ok (.slice (some ⟨w.heap.size, 0, none⟩) n n) (w.alloc (.cells (Array.replicate n (.int .u8 0)) 5)) := by
  have hr := run_make_row' (P := Tryd.prog) 32 5 (.int .u8 0) 1 Tryd.underlying32 (by kernel_rfl) rfl .i64 .i64 n (by omega) (by omega) w
  have e : madeCells #[.int .u8 0] n = Array.replicate n (.int .u8 0) := by
    apply Array.toList_inj.1
    rw [toList_madeCells_one, Array.toList_replicate]
  rw [e] at hr; exact hr
theorem zeros_hc (n : Nat) (j : Nat) (hj : j < (List.replicate n (0 : UInt8)).length) : (Array.replicate n (Value.int .u8 0))[0 + j]? = some (.int .u8 (((List.replicate n (0 : UInt8))[j].toNat : Nat) : Int)) := by
  have : j < n := by simpa using hj
  rw [Nat.zero_add, Array.getElem?_replicate, if_pos this, List.getElem_replicate]; rfl
theorem lenB0 : lenB 0 = mZ := by decide +kernel
theorem hd0 : hd ByteArray.empty = ⟨#[0, 0, 0, 0, 223, 63, 97, 152, 4, 169, 47, 219]⟩ := by
  unfold hd
  rw [show ByteArray.empty.size = 0 from rfl, lenB0, ByteArray.append_empty, sumZ]
  decide +kernel
theorem zeros_ext (n i j : Nat) : (zerosB n).extract i j = zerosB (min j n - i) := by
  apply ByteArray.ext
  apply Array.toList_inj.1
  rw [ByteArray.data_extract, Array.toList_extract, List.extract_eq_take_drop, zerosB_list, zerosB_list, List.drop_replicate, List.take_replicate]
  congr 1; omega
theorem cut_zeros (n : Nat) : cutV (zerosB n) = none := by
  by_cases h : n < 12
  · exact cut_no1 _ (by rw [zerosB_size]; exact h)
  · have hz : num4 (zerosB n) = 0 := by
      unfold num4
      rw [zeros_ext, show min 4 n - 0 = 4 by omega]
      decide +kernel
    rw [cut_last _ (by rw [zerosB_size]; omega) (by omega) (by rw [zerosB_size]; omega), hz, if_neg]
    rw [zeros_ext, zeros_ext, show min (12 + (0 : Int).toNat) n - 12 = 0 by omega, show min 12 n - 0 = 12 by omega, show zerosB 0 = ByteArray.empty from rfl, hd0]
    decide +kernel
/-! A row that is torn -/
theorem row_zeros (L : List ByteArray) (n : Nat) (h : ∀ p ∈ L, p.size ≤ 65536) : wholeV (row L ++ zerosB n) = (L, (row L).size) := by
  rw [whole_row L _ h, whole_none (cut_zeros n)]; simp
theorem x_both (a b : ByteArray) (k : Nat) (h : a.size ≤ k) : (a ++ b).extract 0 k = a ++ b.extract 0 (k - a.size) := by
  rw [ByteArray.extract_append, Nat.zero_sub]
  have e : a.extract 0 k = a := by
    apply ByteArray.ext
    apply Array.toList_inj.1
    have hl : a.data.toList.length = a.size := by simp
    rw [ByteArray.data_extract, Array.toList_extract, List.extract_eq_take_drop, List.drop_zero, List.take_of_length_le (by omega)]
  rw [e]
theorem row_cut (L : List ByteArray) (i k : Nat) (hL : ∀ p ∈ L, p.size ≤ 65536) (hi : i ≤ L.length) (h1 : (row (L.take i)).size ≤ k) (hk : k ≤ (row L).size) (h2 : ∀ h : i < L.length, k < (row (L.take (i + 1))).size) :
    wholeV ((row L).extract 0 k) = (L.take i, (row (L.take i)).size) := by
  have hT : ∀ p ∈ L.take i, p.size ≤ 65536 := fun p hp => hL p (List.mem_of_mem_take hp)
  have hsp : row L = row (L.take i) ++ row (L.drop i) := by rw [← row_app, List.take_append_drop]
  have hx : (row L).extract 0 k = row (L.take i) ++ (row (L.drop i)).extract 0 (k - (row (L.take i)).size) := by
    rw [hsp]; exact x_both _ _ k h1
  have hn : cutV ((row (L.drop i)).extract 0 (k - (row (L.take i)).size)) = none := by
    by_cases hlt : i < L.length
    · have h3 := h2 hlt
      rw [List.take_succ_eq_append_getElem hlt, row_snoc, ByteArray.size_append, frm_size] at h3
      have hd' : row (L.drop i) = frm (L[i]'hlt) ++ row (L.drop (i + 1)) := by rw [List.drop_eq_getElem_cons hlt]; rfl
      rw [hd', x_left (by rw [frm_size]; omega)]
      exact cut_part _ (hL _ (List.getElem_mem hlt)) _ (by omega)
    · rw [List.drop_of_length_le (by omega)]
      exact cut_no1 _ (by rw [ByteArray.size_extract]; show _ < 12; have : (row ([] : List ByteArray)).size = 0 := rfl; omega)
  rw [hx, whole_row _ _ hT, whole_none hn]; simp
theorem R_slicehi {P : Program} {l : Kw.Env} {w : World} {D : Option Tmp} {T : TypeId} {S : String} {F : Array Edge} {g : Option (Nat × Bool)} {t e : TypeId} {x y : Operand} {k : IntKind} {a : Option Addr} {len cap s j : Nat}
    (hx : Kw.ev l x = some (.slice a len cap)) (hy : Kw.ev l y = some (.int k (j : Int))) (hu : P.underlying t = some (.slice e)) (hs : Kw.sizeIs P e s) (hj : j ≤ cap) :
    Kw.Runs P l ⟨D, .slice t x none (some y) none, T, S, F, g⟩ w (.slice a j cap) w := fun ρ h => by
  show (do pure (Next.value (← Instr.sliceAt t (ρ x) (Option.map ρ none) (Option.map ρ (some y)) (Option.map ρ none))) : Sem Next).run P w = _
  rw [h x _ hx]
  refine Kw.run_value ?_
  have hb := Kw.run_bounds (P := P) (w := w) h (isS := true) (len := len) (cap := cap) (i := 0) (j := j) (m := cap) (lo := none) (hi := some y) (mx := none) rfl ⟨k, hy⟩ rfl (Nat.zero_le _) hj (Nat.le_refl _) rfl
  simp only [Instr.sliceAt, Instr.slice, Sem.run_bind, run_underlying hu, Result.andThen_ok, hb, Kw.run_sizeOf hs w, Sem.run_pure]
  congr 2
  cases a with
  | none => simp
  | some a => simp [Addr.add]
theorem Strs.sub {w : World} {a : Option Addr} {cap i : Nat} {L : List ByteArray} (h : Strs w (.slice a L.length cap) L) (hi : i ≤ L.length) : Strs w (.slice a i cap) (L.take i) := by
  obtain ⟨a', cap', e, h⟩ := h
  simp only [Value.slice.injEq] at e
  obtain ⟨rfl, _, rfl⟩ := e
  refine ⟨a, cap, by rw [List.length_take, Nat.min_eq_left hi], ?_⟩
  rcases h with rfl | ⟨g, o, rfl, h⟩
  · exact .inl (by simp)
  · refine .inr ⟨g, o, rfl, fun j hj => ?_⟩
    rw [List.length_take] at hj
    rw [h j (by omega), List.getElem_take]

set_option maxRecDepth 100000 in
set_option maxHeartbeats 4000000 in
theorem FramesTorn_c (a1 : Option Addr) (cap1 : Nat) (L : List ByteArray) (hc1 : L.length ≤ cap1) (c z : Nat) (hc : c ≤ 65535) (hz : z ≤ 255) (w : World) (S1 : Strs w (.slice a1 L.length cap1) L) (h0 : Tab w 0 H8) (h1 : Tab w 1 K64) : Calls Tryd.prog 8 #[.slice a1 L.length cap1, .int .u16 (c : Int), .int .u8 (z : Int)] w fun e w' => e = .returned (.bool true) ∧ Below w.heap.size w w' := by
  have HB : Below w.heap.size w w := Below.refl _ _
  have Sd : ∀ (q : ByteArray), q.size ≤ 1000000 → ∀ (a : Int), -9223372036854775808 ≤ a ∧ a ≤ 9223372036854775807 → ∀ (w' : World), Below w.heap.size w w' → Calls Tryd.prog 20 #[.string q, .int .i64 a] w' fun e w2 => e = .returned (.bool true) ∧ Below w'.heap.size w' w2 := fun q hs a ha w' b => stands_c q hs a ha w' (tab_below h0 b) (tab_below h1 b)
  have Fr : ∀ (w' : World), Below w.heap.size w w' → Calls Tryd.prog 17 #[] w' fun e w2 => e = .returned (.bool true) ∧ Below w'.heap.size w' w2 := fun w' b => framed_c w' (tab_below h0 b) (tab_below h1 b)
  have Fw : ∀ (q : ByteArray), q.size ≤ 1000000 → ∀ (L : List ByteArray) (n : Nat), wholeV q = (L, n) → ∀ (w' : World), Below w.heap.size w w' → Calls Tryd.prog 22 #[.string q] w' (Kw.Back fun v w2 => (∃ vl, v = .tuple #[vl, .int .i64 (n : Int)] ∧ Kw.Own w2 w'.heap.size 9 1 vl L.length (strsL L)) ∧ Below w'.heap.size w' w2) := fun q hs L n hq w' b => by
    have k := fwhole_c q hs w' (tab_below h0 b) (tab_below h1 b)
    rw [hq] at k; exact k
  clear h0 h1
  refine Kw.enter Tryd.func8 rfl Tryd.ntmps8 rfl rfl ?_
  refine Kw.WC_seq (fun K1 hK1 => ?_)
  refine Kw.WC_region [some 6] rfl ?_
  refine Kw.WL_v rfl rfl rfl (Kw.R_assign rfl) ?_
  refine Kw.WL_nil ?_
  refine hK1 _ _ ?_; clear hK1 K1
  refine Kw.WC_seq (fun K2 hK2 => ?_)
  refine Kw.WC_region [some 17, some 18, some 16, some 19, some 20, some 21, some 7, some 8, some 9] rfl ?_
  refine Kw.WL_v rfl rfl rfl (Kw.R_move rfl) ?_
  refine Kw.WL_call rfl rfl rfl rfl F.cl21 rfl (row_c (.slice a1 L.length cap1) L w (S1)) ?_; rintro _ w3 ⟨⟨hno, rfl⟩ | ⟨hok, vl, rfl, O_vl⟩, bw3⟩
  ·
    replace HB := Kw.Below.then HB (Nat.le_refl _) bw3; clear bw3
    refine Kw.WL_v rfl rfl rfl (Kw.R_move rfl) ?_
    refine Kw.WL_v rfl rfl rfl (Kw.R_extract (v := .string ⟨#[]⟩) rfl rfl) ?_
    refine Kw.WL_v rfl rfl rfl (Kw.R_extract (v := .slice none 0 0) rfl rfl) ?_
    refine Kw.WL_v rfl rfl rfl (Kw.R_extract (v := .bool false) rfl rfl) ?_
    refine Kw.WL_v rfl rfl rfl (Kw.R_assign rfl) ?_
    refine Kw.WL_v rfl rfl rfl (Kw.R_assign rfl) ?_
    refine Kw.WL_v rfl rfl rfl (Kw.R_assign rfl) ?_
    refine Kw.WL_nil ?_
    refine hK2 _ _ ?_; clear hK2 K2
    refine Kw.WC_sub (l' := [(0, .slice a1 L.length cap1), (1, .int .u16 (c : Int)), (2, .int .u8 (z : Int)), (7, .string ⟨#[]⟩), (8, .slice none 0 0), (9, .bool false)]) (Kw.Sub.cons rfl (Kw.Sub.cons rfl (Kw.Sub.cons rfl (Kw.Sub.cons rfl (Kw.Sub.cons rfl (Kw.Sub.cons rfl Kw.Sub.nil)))))) ?_
    refine Kw.WC_seq (fun K4 hK4 => ?_)
    refine Kw.WC_seq (fun K5 hK5 => ?_)
    refine Kw.WC_region [some 22, some 23] rfl ?_
    refine Kw.WL_v rfl rfl rfl (Kw.R_move rfl) ?_
    refine Kw.WL_v rfl rfl rfl (Kw.R_not rfl rfl) ?_
    refine Kw.WL_nil ?_
    refine hK5 _ _ ?_; clear hK5 K5
    refine Kw.WC_true rfl ?_
    refine Kw.WC_seq (fun K6 hK6 => ?_)
    refine Kw.WC_region [some 24, some 6] rfl ?_
    refine Kw.WL_callc rfl rfl rfl rfl F.cl17 rfl (Fr _ HB) ?_; intro w7 bw7
    replace HB := Kw.Below.then HB (Nat.le_refl _) bw7
    clear bw7
    refine Kw.WL_v rfl rfl rfl (Kw.R_assign rfl) ?_
    refine Kw.WL_nil ?_
    refine hK6 _ _ ?_; clear hK6 K6
    refine Kw.WC_sub (l' := [(6, .bool true)]) (Kw.Sub.cons rfl Kw.Sub.nil) ?_
    refine Kw.WC_ret ?_
    refine Kw.QR_then ?_; clear hK4 K4
    exact Kw.post_ret1 rfl rfl ⟨rfl, HB⟩
  ·
    replace O_vl := O_vl.mono HB.size
    obtain ⟨g, capg, cur, rfl, hg, A_g, hgc, hgs, ht⟩ := O_vl.open (by omega)
    replace HB := Kw.Below.then HB (Nat.le_refl _) bw3; clear bw3
    have hrs := row_size L hok.2; have hLn := hok.1
    refine Kw.WL_v rfl rfl rfl (Kw.R_move rfl) ?_
    refine Kw.WL_v rfl rfl rfl (Kw.R_extract (v := .string (row L)) rfl rfl) ?_
    refine Kw.WL_v rfl rfl rfl (Kw.R_extract (v := .slice (some ⟨g, 0, none⟩) (L.length + 1 : Nat) capg) rfl rfl) ?_
    refine Kw.WL_v rfl rfl rfl (Kw.R_extract (v := .bool true) rfl rfl) ?_
    refine Kw.WL_v rfl rfl rfl (Kw.R_assign rfl) ?_
    refine Kw.WL_v rfl rfl rfl (Kw.R_assign rfl) ?_
    refine Kw.WL_v rfl rfl rfl (Kw.R_assign rfl) ?_
    refine Kw.WL_nil ?_
    refine hK2 _ _ ?_; clear hK2 K2
    refine Kw.WC_sub (l' := [(0, .slice a1 L.length cap1), (1, .int .u16 (c : Int)), (2, .int .u8 (z : Int)), (7, .string (row L)), (8, .slice (some ⟨g, 0, none⟩) (L.length + 1 : Nat) capg), (9, .bool true)]) (Kw.Sub.cons rfl (Kw.Sub.cons rfl (Kw.Sub.cons rfl (Kw.Sub.cons rfl (Kw.Sub.cons rfl (Kw.Sub.cons rfl Kw.Sub.nil)))))) ?_
    refine Kw.WC_seq (fun K8 hK8 => ?_)
    refine Kw.WC_seq (fun K9 hK9 => ?_)
    refine Kw.WC_region [some 22, some 23] rfl ?_
    refine Kw.WL_v rfl rfl rfl (Kw.R_move rfl) ?_
    refine Kw.WL_v rfl rfl rfl (Kw.R_not rfl rfl) ?_
    refine Kw.WL_nil ?_
    refine hK9 _ _ ?_; clear hK9 K9
    refine Kw.WC_false rfl ?_
    refine Kw.WC_skip ?_
    refine hK8 _ _ ?_; clear hK8 K8
    refine Kw.WC_seq (fun K10 hK10 => ?_)
    refine Kw.WC_region [some 25, some 26, some 27, some 28, some 29, some 30, some 10] rfl ?_
    refine Kw.WL_v rfl rfl rfl (Kw.R_move rfl) ?_
    refine Kw.WL_v rfl rfl rfl (Kw.R_conv (c := (c : Int)) Tryd.underlying39 Tryd.underlying3 rfl (Kw.wrap_i64 (by omega))) ?_
    refine Kw.WL_v rfl rfl rfl (Kw.R_move rfl) ?_
    refine Kw.WL_v rfl rfl rfl (Kw.R_lens Tryd.underlying9 rfl) ?_
    refine Kw.WL_v rfl rfl rfl (Kw.R_add (c := (((row L).size + 1 : Nat) : Int)) rfl rfl (by rw [Kw.wrap_i64 (by omega)]; omega)) ?_
    obtain ⟨k, hk0⟩ : ∃ k, k = c % ((row L).size + 1) := ⟨_, rfl⟩
    have hkl : k ≤ (row L).size := by have := Nat.mod_lt c (show 0 < (row L).size + 1 by omega); omega
    have hbig : ∀ p ∈ L, p.size ≤ 65536 := fun p hp => by have := hok.2 p hp; omega
    refine Kw.WL_v rfl rfl rfl (Kw.R_rem (c := (k : Int)) rfl rfl (by omega) (by rw [hk0, Kw.tmod_pos (by omega)]; exact (Int.natCast_emod _ _).symm)) ?_
    refine Kw.WL_v rfl rfl rfl (Kw.R_assign rfl) ?_
    refine Kw.WL_nil ?_
    refine hK10 _ _ ?_; clear hK10 K10
    refine Kw.WC_sub (l' := [(0, .slice a1 L.length cap1), (2, .int .u8 (z : Int)), (7, .string (row L)), (8, .slice (some ⟨g, 0, none⟩) (L.length + 1 : Nat) capg), (10, .int .i64 (k : Int))]) (Kw.Sub.cons rfl (Kw.Sub.cons rfl (Kw.Sub.cons rfl (Kw.Sub.cons rfl (Kw.Sub.cons rfl Kw.Sub.nil))))) ?_
    refine Kw.WC_seq (fun K11 hK11 => ?_)
    refine Kw.WC_region [some 11] rfl ?_
    refine Kw.WL_v rfl rfl rfl (Kw.R_assign rfl) ?_
    refine Kw.WL_nil ?_
    refine hK11 _ _ ?_; clear hK11 K11
    refine Kw.WC_seq (fun K12 hK12 => ?_)
    refine Kw.WC_block ?_
    refine Kw.WC_loop (ι := Nat) (fun (i : Nat) (ww : World) => (i ≤ L.length ∧ (row (L.take i)).size ≤ k) ∧ Kw.At ww g cur 3 ∧ Below w.heap.size w ww) (fun (i : Nat) => [(0, .slice a1 L.length cap1), (2, .int .u8 (z : Int)), (7, .string (row L)), (8, .slice (some ⟨g, 0, none⟩) (L.length + 1 : Nat) capg), (10, .int .i64 (k : Int)), (11, .int .i64 (i : Int))]) (fun (i : Nat) => L.length - i) 0 ⟨⟨Nat.zero_le _, Nat.zero_le _⟩, A_g, HB⟩ (Kw.Sub.cons rfl (Kw.Sub.cons rfl (Kw.Sub.cons rfl (Kw.Sub.cons rfl (Kw.Sub.cons rfl (Kw.Sub.cons rfl Kw.Sub.nil)))))) ?_
    clear A_g
    clear HB
    rintro i w13 ⟨⟨hi, hik⟩, A_g, HB⟩
    refine Kw.WC_seq (fun K14 hK14 => ?_)
    refine Kw.WC_seq (fun K15 hK15 => ?_)
    refine Kw.WC_region [some 31, some 32, some 33, some 34, some 35, some 36, some 37, some 38, some 39, some 40, some 41, some 42, some 43, some 44] rfl ?_
    refine Kw.WL_v rfl rfl rfl (Kw.R_move rfl) ?_
    refine Kw.WL_v rfl rfl rfl (Kw.R_add (c := ((i + 1 : Nat) : Int)) rfl rfl (by rw [Kw.wrap_i64 (by omega)]; omega)) ?_
    refine Kw.WL_v rfl rfl rfl (Kw.R_move rfl) ?_
    refine Kw.WL_v rfl rfl rfl (Kw.R_lenl Tryd.underlying40 rfl) ?_
    by_cases c16 : (((i + 1 : Nat) : Int) : Int) < ((L.length + 1 : Nat) : Int)
    ·
      refine Kw.WL_v rfl rfl rfl (Kw.R_lss (z := true) rfl rfl (decide_eq_true c16)) ?_
      refine Kw.WL_v rfl rfl rfl (Kw.R_move rfl) ?_
      refine Kw.WL_v rfl rfl rfl (Kw.R_move rfl) ?_
      refine Kw.WL_v rfl rfl rfl (Kw.R_move rfl) ?_
      refine Kw.WL_v rfl rfl rfl (Kw.R_add (c := ((i + 1 : Nat) : Int)) rfl rfl (by rw [Kw.wrap_i64 (by omega)]; omega)) ?_
      refine Kw.WL_v rfl rfl rfl (Kw.R_indexAddrS (i := (i + 1 : Nat)) (o' := (i + 1)) rfl rfl Tryd.underlying40 F.sz3 (by omega) (by omega)) ?_
      refine Kw.WL_v rfl rfl rfl (Kw.R_load1 (v := .int .i64 ((row (L.take (i + 1))).size : Int)) rfl Tryd.underlying3 rfl A_g ((Kw.Own.cellAt ht (by omega)).trans (endsN_get L _ _ (by omega)))) ?_
      refine Kw.WL_v rfl rfl rfl (Kw.R_move rfl) ?_
      by_cases c17 : (((row (L.take (i + 1))).size : Int) : Int) ≤ (k : Int)
      ·
        refine Kw.WL_v rfl rfl rfl (Kw.R_leq (z := true) rfl rfl (decide_eq_true c17)) ?_
        refine Kw.WL_v rfl rfl rfl (Kw.R_pickt rfl rfl) ?_
        refine Kw.WL_nil ?_
        refine hK15 _ _ ?_; clear hK15 K15
        refine Kw.WC_sub (l' := [(0, .slice a1 L.length cap1), (2, .int .u8 (z : Int)), (7, .string (row L)), (8, .slice (some ⟨g, 0, none⟩) (L.length + 1 : Nat) capg), (10, .int .i64 (k : Int)), (11, .int .i64 (i : Int)), (37, .slice (some ⟨g, 0, none⟩) (L.length + 1 : Nat) capg), (38, .int .i64 (i : Int)), (39, .int .i64 ((i + 1 : Nat) : Int)), (40, .pointer (some ⟨g, (i + 1), none⟩)), (41, .int .i64 ((row (L.take (i + 1))).size : Int)), (42, .int .i64 (k : Int)), (43, .bool true), (44, .bool true)]) (Kw.Sub.cons rfl (Kw.Sub.cons rfl (Kw.Sub.cons rfl (Kw.Sub.cons rfl (Kw.Sub.cons rfl (Kw.Sub.cons rfl (Kw.Sub.cons rfl (Kw.Sub.cons rfl (Kw.Sub.cons rfl (Kw.Sub.cons rfl (Kw.Sub.cons rfl (Kw.Sub.cons rfl (Kw.Sub.cons rfl (Kw.Sub.cons rfl Kw.Sub.nil)))))))))))))) ?_
        refine Kw.WC_true rfl ?_
        refine Kw.WC_skip ?_
        refine hK14 _ _ ?_; clear hK14 K14
        refine Kw.WC_block ?_
        refine Kw.WC_region [some 45, some 46, some 11] rfl ?_
        refine Kw.WL_v rfl rfl rfl (Kw.R_move rfl) ?_
        refine Kw.WL_v rfl rfl rfl (Kw.R_add (c := ((i + 1 : Nat) : Int)) rfl rfl (by rw [Kw.wrap_i64 (by omega)]; omega)) ?_
        refine Kw.WL_v rfl rfl rfl (Kw.R_assign rfl) ?_
        refine Kw.WL_nil ?_
        refine Kw.QN_block ?_
        refine Kw.QN_round (i + 1) ⟨⟨by omega, by omega⟩, A_g, HB⟩ (by omega) (Kw.Sub.cons rfl (Kw.Sub.cons rfl (Kw.Sub.cons rfl (Kw.Sub.cons rfl (Kw.Sub.cons rfl (Kw.Sub.cons rfl Kw.Sub.nil))))))
      ·
        refine Kw.WL_v rfl rfl rfl (Kw.R_leq (z := false) rfl rfl (decide_eq_false c17)) ?_
        refine Kw.WL_v rfl rfl rfl (Kw.R_pickt rfl rfl) ?_
        refine Kw.WL_nil ?_
        refine hK15 _ _ ?_; clear hK15 K15
        refine Kw.WC_sub (l' := [(0, .slice a1 L.length cap1), (2, .int .u8 (z : Int)), (7, .string (row L)), (8, .slice (some ⟨g, 0, none⟩) (L.length + 1 : Nat) capg), (10, .int .i64 (k : Int)), (11, .int .i64 (i : Int)), (37, .slice (some ⟨g, 0, none⟩) (L.length + 1 : Nat) capg), (38, .int .i64 (i : Int)), (39, .int .i64 ((i + 1 : Nat) : Int)), (40, .pointer (some ⟨g, (i + 1), none⟩)), (41, .int .i64 ((row (L.take (i + 1))).size : Int)), (42, .int .i64 (k : Int)), (43, .bool false), (44, .bool false)]) (Kw.Sub.cons rfl (Kw.Sub.cons rfl (Kw.Sub.cons rfl (Kw.Sub.cons rfl (Kw.Sub.cons rfl (Kw.Sub.cons rfl (Kw.Sub.cons rfl (Kw.Sub.cons rfl (Kw.Sub.cons rfl (Kw.Sub.cons rfl (Kw.Sub.cons rfl (Kw.Sub.cons rfl (Kw.Sub.cons rfl (Kw.Sub.cons rfl Kw.Sub.nil)))))))))))))) ?_
        refine Kw.WC_false rfl ?_
        refine Kw.WC_exit ?_
        refine Kw.QE_then ?_; clear hK14 K14
        refine Kw.QE_then ?_
        refine Kw.QE_here ?_
        refine hK12 _ _ ?_; clear hK12 K12
        refine Kw.WC_sub (l' := [(0, .slice a1 L.length cap1), (2, .int .u8 (z : Int)), (7, .string (row L)), (8, .slice (some ⟨g, 0, none⟩) (L.length + 1 : Nat) capg), (10, .int .i64 (k : Int)), (11, .int .i64 (i : Int))]) (Kw.Sub.cons rfl (Kw.Sub.cons rfl (Kw.Sub.cons rfl (Kw.Sub.cons rfl (Kw.Sub.cons rfl (Kw.Sub.cons rfl Kw.Sub.nil)))))) ?_
        refine Kw.WC_seq (fun K18 hK18 => ?_)
        refine Kw.WC_region [some 48, some 49, some 50, some 51, some 47, some 52, some 53, some 12, some 13] rfl ?_
        refine Kw.WL_v rfl rfl rfl (Kw.R_move rfl) ?_
        refine Kw.WL_v rfl rfl rfl (Kw.R_move rfl) ?_
        have hcut := row_cut L i k hbig hi hik hkl (fun h => by omega)
        refine Kw.WL_v rfl rfl rfl (Kw.R_slices (i := 0) (j := k) (r := ((row L).extract 0 k)) Tryd.underlying9 rfl rfl ⟨_, rfl⟩ (by omega) (by omega) (rfl)) ?_
        refine Kw.WL_call rfl rfl rfl rfl F.cl22 rfl (Fw ((row L).extract 0 k) (by rw [ByteArray.size_extract]; omega) _ _ hcut _ HB) ?_; rintro _ w19 ⟨⟨vl, rfl, O_vl⟩, bw19⟩
        have D_vl_g : Kw.ob vl ≠ some g := fun e => absurd (O_vl.ge e) (Nat.not_le_of_lt A_g.lt); replace A_g := A_g.call bw19
        replace O_vl := O_vl.mono HB.size
        replace HB := Kw.Below.then HB (Nat.le_refl _) bw19; clear bw19
        refine Kw.WL_v rfl rfl rfl (Kw.R_move rfl) ?_
        refine Kw.WL_v rfl rfl rfl (Kw.R_extract (v := vl) rfl rfl) ?_
        refine Kw.WL_v rfl rfl rfl (Kw.R_extract (v := .int .i64 ((row (L.take i)).size : Int)) rfl rfl) ?_
        refine Kw.WL_v rfl rfl rfl (Kw.R_assign rfl) ?_
        refine Kw.WL_v rfl rfl rfl (Kw.R_assign rfl) ?_
        refine Kw.WL_nil ?_
        refine hK18 _ _ ?_; clear hK18 K18
        refine Kw.WC_sub (l' := [(0, .slice a1 L.length cap1), (2, .int .u8 (z : Int)), (7, .string (row L)), (8, .slice (some ⟨g, 0, none⟩) (L.length + 1 : Nat) capg), (11, .int .i64 (i : Int)), (12, vl), (13, .int .i64 ((row (L.take i)).size : Int))]) (Kw.Sub.cons rfl (Kw.Sub.cons rfl (Kw.Sub.cons rfl (Kw.Sub.cons rfl (Kw.Sub.cons rfl (Kw.Sub.cons rfl (Kw.Sub.cons rfl Kw.Sub.nil))))))) ?_
        refine Kw.WC_seq (fun K20 hK20 => ?_)
        refine Kw.WC_region [some 55, some 56, some 57, some 58, some 59, some 60, some 61, some 54, some 62, some 63, some 14, some 15] rfl ?_
        refine Kw.WL_v rfl rfl rfl (Kw.R_move rfl) ?_
        refine Kw.WL_v rfl rfl rfl (Kw.R_move rfl) ?_
        refine Kw.WL_v rfl rfl rfl (Kw.R_conv (c := (z : Int)) Tryd.underlying5 Tryd.underlying3 rfl (Kw.wrap_i64 (by omega))) ?_
        obtain ⟨gz, w21, N_gz⟩ : ∃ b w2, Kw.Newb w19 b (Array.replicate z (.int .u8 0)) 5 w2 := ⟨_, _, rfl, rfl⟩
        refine Kw.WL_v rfl rfl rfl (Kw.R_makeSlice (len := z) (k := 0) (bytes := 0) rfl rfl Tryd.underlying32 (mk_zeros z (by omega)) N_gz) ?_
        have L_g_gz := N_gz.ne A_g; replace A_g := N_gz.keep A_g
        have A_gz : Kw.At w21 gz (Array.replicate z (.int .u8 0)) 5 := N_gz.at_
        have D_vl_gz := O_vl.ne_new N_gz; replace O_vl := O_vl.new N_gz
        have G_gz := N_gz.ge HB (Nat.le_refl _); replace HB := N_gz.below HB (Nat.le_refl _); clear N_gz
        refine Kw.WL_v rfl rfl rfl (Kw.R_convbs (bs := (List.replicate z (0 : UInt8))) (r := (zerosB z)) Tryd.underlying32 Tryd.underlying5 Tryd.underlying9 rfl A_gz (by simp) (zeros_hc z) (rfl)) ?_
        refine Kw.WL_v rfl rfl rfl (Kw.R_adds (r := (row L ++ zerosB z)) rfl rfl (by rw [zerosB_size]; omega) (rfl)) ?_
        refine Kw.WL_call rfl rfl rfl rfl F.cl22 rfl (Fw (row L ++ zerosB z) (by rw [ByteArray.size_append, zerosB_size]; omega) _ _ (row_zeros L z hbig) _ HB) ?_; rintro _ w22 ⟨⟨vm, rfl, O_vm⟩, bw22⟩
        have D_vm_g : Kw.ob vm ≠ some g := fun e => absurd (O_vm.ge e) (Nat.not_le_of_lt A_g.lt); replace A_g := A_g.call bw22
        have D_vm_gz : Kw.ob vm ≠ some gz := fun e => absurd (O_vm.ge e) (Nat.not_le_of_lt A_gz.lt); replace A_gz := A_gz.call bw22
        replace O_vm := O_vm.mono HB.size
        replace O_vl := O_vl.call bw22
        replace HB := Kw.Below.then HB (Nat.le_refl _) bw22; clear bw22
        refine Kw.WL_v rfl rfl rfl (Kw.R_move rfl) ?_
        refine Kw.WL_v rfl rfl rfl (Kw.R_extract (v := vm) rfl rfl) ?_
        refine Kw.WL_v rfl rfl rfl (Kw.R_extract (v := .int .i64 ((row L).size : Int)) rfl rfl) ?_
        refine Kw.WL_v rfl rfl rfl (Kw.R_assign rfl) ?_
        refine Kw.WL_v rfl rfl rfl (Kw.R_assign rfl) ?_
        refine Kw.WL_nil ?_
        refine hK20 _ _ ?_; clear hK20 K20
        refine Kw.WC_sub (l' := [(0, .slice a1 L.length cap1), (7, .string (row L)), (8, .slice (some ⟨g, 0, none⟩) (L.length + 1 : Nat) capg), (11, .int .i64 (i : Int)), (12, vl), (13, .int .i64 ((row (L.take i)).size : Int)), (14, vm), (15, .int .i64 ((row L).size : Int))]) (Kw.Sub.cons rfl (Kw.Sub.cons rfl (Kw.Sub.cons rfl (Kw.Sub.cons rfl (Kw.Sub.cons rfl (Kw.Sub.cons rfl (Kw.Sub.cons rfl (Kw.Sub.cons rfl Kw.Sub.nil)))))))) ?_
        refine Kw.WC_seq (fun K23 hK23 => ?_)
        refine Kw.WC_region [some 64, some 65, some 66, some 67, some 68, some 69, some 70, some 71, some 72, some 73, some 74, some 75, some 76, some 77, some 78, some 79, some 80, some 81, some 82, some 83, some 84, some 85, some 86, some 87, some 88, some 89, some 90, some 6] rfl ?_
        refine Kw.WL_v rfl rfl rfl (Kw.R_move rfl) ?_
        refine Kw.WL_v rfl rfl rfl (Kw.R_move rfl) ?_
        refine Kw.WL_v rfl rfl rfl (Kw.R_move rfl) ?_
        refine Kw.WL_v rfl rfl rfl (R_slicehi (j := i) rfl rfl Tryd.underlying38 F.sz9 (by omega)) ?_
        refine Kw.WL_callc rfl rfl rfl rfl F.cl23 rfl (by have k := texts_c vl _ _ _ w22 (Strs.own O_vl) (Strs.sub (Strs.call S1 (HB.mono (Nat.le_refl _))) hi) (by rw [List.length_take]; omega); rw [decide_eq_true rfl] at k; exact k) ?_; intro w24 bw24
        replace A_g := A_g.call bw24
        replace A_gz := A_gz.call bw24
        replace HB := Kw.Below.then HB (Nat.le_refl _) bw24
        replace O_vl := O_vl.call bw24
        replace O_vm := O_vm.call bw24
        clear bw24
        refine Kw.WL_v rfl rfl rfl (Kw.R_move rfl) ?_
        refine Kw.WL_v rfl rfl rfl (Kw.R_move rfl) ?_
        refine Kw.WL_v rfl rfl rfl (Kw.R_move rfl) ?_
        refine Kw.WL_v rfl rfl rfl (Kw.R_move rfl) ?_
        refine Kw.WL_v rfl rfl rfl (Kw.R_indexAddrS (i := i) (o' := i) rfl rfl Tryd.underlying40 F.sz3 (by omega) (by omega)) ?_
        refine Kw.WL_v rfl rfl rfl (Kw.R_load1 (v := .int .i64 ((row (L.take i)).size : Int)) rfl Tryd.underlying3 rfl A_g ((Kw.Own.cellAt ht (by omega)).trans (endsN_get L _ _ (by omega)))) ?_
        refine Kw.WL_v rfl rfl rfl (Kw.R_eqi (z := true) rfl rfl (decide_eq_true rfl)) ?_
        refine Kw.WL_v rfl rfl rfl (Kw.R_pickt rfl rfl) ?_
        refine Kw.WL_v rfl rfl rfl (Kw.R_move rfl) ?_
        refine Kw.WL_v rfl rfl rfl (Kw.R_move rfl) ?_
        refine Kw.WL_v rfl rfl rfl (Kw.R_move rfl) ?_
        refine Kw.WL_callc rfl rfl rfl rfl F.cl23 rfl (by have k := texts_c vm _ _ _ w24 (Strs.own O_vm) (Strs.call S1 HB) (by omega); rw [decide_eq_true rfl] at k; exact k) ?_; intro w25 bw25
        replace A_g := A_g.call bw25
        replace A_gz := A_gz.call bw25
        replace HB := Kw.Below.then HB (Nat.le_refl _) bw25
        replace O_vl := O_vl.call bw25
        replace O_vm := O_vm.call bw25
        clear bw25
        refine Kw.WL_v rfl rfl rfl (Kw.R_pickt rfl rfl) ?_
        refine Kw.WL_v rfl rfl rfl (Kw.R_move rfl) ?_
        refine Kw.WL_v rfl rfl rfl (Kw.R_move rfl) ?_
        refine Kw.WL_v rfl rfl rfl (Kw.R_move rfl) ?_
        refine Kw.WL_v rfl rfl rfl (Kw.R_lens Tryd.underlying9 rfl) ?_
        refine Kw.WL_v rfl rfl rfl (Kw.R_eqi (z := true) rfl rfl (decide_eq_true rfl)) ?_
        refine Kw.WL_v rfl rfl rfl (Kw.R_pickt rfl rfl) ?_
        refine Kw.WL_v rfl rfl rfl (Kw.R_move rfl) ?_
        refine Kw.WL_callc rfl rfl rfl rfl F.cl17 rfl (Fr _ HB) ?_; intro w26 bw26
        replace A_g := A_g.call bw26
        replace A_gz := A_gz.call bw26
        replace HB := Kw.Below.then HB (Nat.le_refl _) bw26
        replace O_vl := O_vl.call bw26
        replace O_vm := O_vm.call bw26
        clear bw26
        refine Kw.WL_v rfl rfl rfl (Kw.R_pickt rfl rfl) ?_
        refine Kw.WL_v rfl rfl rfl (Kw.R_assign rfl) ?_
        refine Kw.WL_nil ?_
        refine hK23 _ _ ?_; clear hK23 K23
        refine Kw.WC_sub (l' := [(6, .bool true)]) (Kw.Sub.cons rfl Kw.Sub.nil) ?_
        refine Kw.WC_ret ?_
        exact Kw.post_ret1 rfl rfl ⟨rfl, HB⟩
    ·
      refine Kw.WL_v rfl rfl rfl (Kw.R_lss (z := false) rfl rfl (decide_eq_false c16)) ?_
      refine Kw.WL_v rfl rfl rfl (Kw.R_move rfl) ?_
      refine Kw.WL_off rfl rfl rfl ?_
      refine Kw.WL_off rfl rfl rfl ?_
      refine Kw.WL_off rfl rfl rfl ?_
      refine Kw.WL_off rfl rfl rfl ?_
      refine Kw.WL_off rfl rfl rfl ?_
      refine Kw.WL_off rfl rfl rfl ?_
      refine Kw.WL_off rfl rfl rfl ?_
      refine Kw.WL_v rfl rfl rfl (Kw.R_pickf rfl rfl) ?_
      refine Kw.WL_nil ?_
      refine hK15 _ _ ?_; clear hK15 K15
      refine Kw.WC_sub (l' := [(0, .slice a1 L.length cap1), (2, .int .u8 (z : Int)), (7, .string (row L)), (8, .slice (some ⟨g, 0, none⟩) (L.length + 1 : Nat) capg), (10, .int .i64 (k : Int)), (11, .int .i64 (i : Int)), (37, undef), (38, undef), (39, undef), (40, undef), (41, undef), (42, undef), (43, undef), (44, .bool false)]) (Kw.Sub.cons rfl (Kw.Sub.cons rfl (Kw.Sub.cons rfl (Kw.Sub.cons rfl (Kw.Sub.cons rfl (Kw.Sub.cons rfl (Kw.Sub.cons rfl (Kw.Sub.cons rfl (Kw.Sub.cons rfl (Kw.Sub.cons rfl (Kw.Sub.cons rfl (Kw.Sub.cons rfl (Kw.Sub.cons rfl (Kw.Sub.cons rfl Kw.Sub.nil)))))))))))))) ?_
      refine Kw.WC_false rfl ?_
      refine Kw.WC_exit ?_
      refine Kw.QE_then ?_; clear hK14 K14
      refine Kw.QE_then ?_
      refine Kw.QE_here ?_
      refine hK12 _ _ ?_; clear hK12 K12
      refine Kw.WC_sub (l' := [(0, .slice a1 L.length cap1), (2, .int .u8 (z : Int)), (7, .string (row L)), (8, .slice (some ⟨g, 0, none⟩) (L.length + 1 : Nat) capg), (10, .int .i64 (k : Int)), (11, .int .i64 (i : Int))]) (Kw.Sub.cons rfl (Kw.Sub.cons rfl (Kw.Sub.cons rfl (Kw.Sub.cons rfl (Kw.Sub.cons rfl (Kw.Sub.cons rfl Kw.Sub.nil)))))) ?_
      refine Kw.WC_seq (fun K27 hK27 => ?_)
      refine Kw.WC_region [some 48, some 49, some 50, some 51, some 47, some 52, some 53, some 12, some 13] rfl ?_
      refine Kw.WL_v rfl rfl rfl (Kw.R_move rfl) ?_
      refine Kw.WL_v rfl rfl rfl (Kw.R_move rfl) ?_
      have hcut := row_cut L i k hbig hi hik hkl (fun h => by omega)
      refine Kw.WL_v rfl rfl rfl (Kw.R_slices (i := 0) (j := k) (r := ((row L).extract 0 k)) Tryd.underlying9 rfl rfl ⟨_, rfl⟩ (by omega) (by omega) (rfl)) ?_
      refine Kw.WL_call rfl rfl rfl rfl F.cl22 rfl (Fw ((row L).extract 0 k) (by rw [ByteArray.size_extract]; omega) _ _ hcut _ HB) ?_; rintro _ w28 ⟨⟨vl, rfl, O_vl⟩, bw28⟩
      have D_vl_g : Kw.ob vl ≠ some g := fun e => absurd (O_vl.ge e) (Nat.not_le_of_lt A_g.lt); replace A_g := A_g.call bw28
      replace O_vl := O_vl.mono HB.size
      replace HB := Kw.Below.then HB (Nat.le_refl _) bw28; clear bw28
      refine Kw.WL_v rfl rfl rfl (Kw.R_move rfl) ?_
      refine Kw.WL_v rfl rfl rfl (Kw.R_extract (v := vl) rfl rfl) ?_
      refine Kw.WL_v rfl rfl rfl (Kw.R_extract (v := .int .i64 ((row (L.take i)).size : Int)) rfl rfl) ?_
      refine Kw.WL_v rfl rfl rfl (Kw.R_assign rfl) ?_
      refine Kw.WL_v rfl rfl rfl (Kw.R_assign rfl) ?_
      refine Kw.WL_nil ?_
      refine hK27 _ _ ?_; clear hK27 K27
      refine Kw.WC_sub (l' := [(0, .slice a1 L.length cap1), (2, .int .u8 (z : Int)), (7, .string (row L)), (8, .slice (some ⟨g, 0, none⟩) (L.length + 1 : Nat) capg), (11, .int .i64 (i : Int)), (12, vl), (13, .int .i64 ((row (L.take i)).size : Int))]) (Kw.Sub.cons rfl (Kw.Sub.cons rfl (Kw.Sub.cons rfl (Kw.Sub.cons rfl (Kw.Sub.cons rfl (Kw.Sub.cons rfl (Kw.Sub.cons rfl Kw.Sub.nil))))))) ?_
      refine Kw.WC_seq (fun K29 hK29 => ?_)
      refine Kw.WC_region [some 55, some 56, some 57, some 58, some 59, some 60, some 61, some 54, some 62, some 63, some 14, some 15] rfl ?_
      refine Kw.WL_v rfl rfl rfl (Kw.R_move rfl) ?_
      refine Kw.WL_v rfl rfl rfl (Kw.R_move rfl) ?_
      refine Kw.WL_v rfl rfl rfl (Kw.R_conv (c := (z : Int)) Tryd.underlying5 Tryd.underlying3 rfl (Kw.wrap_i64 (by omega))) ?_
      obtain ⟨gz, w30, N_gz⟩ : ∃ b w2, Kw.Newb w28 b (Array.replicate z (.int .u8 0)) 5 w2 := ⟨_, _, rfl, rfl⟩
      refine Kw.WL_v rfl rfl rfl (Kw.R_makeSlice (len := z) (k := 0) (bytes := 0) rfl rfl Tryd.underlying32 (mk_zeros z (by omega)) N_gz) ?_
      have L_g_gz := N_gz.ne A_g; replace A_g := N_gz.keep A_g
      have A_gz : Kw.At w30 gz (Array.replicate z (.int .u8 0)) 5 := N_gz.at_
      have D_vl_gz := O_vl.ne_new N_gz; replace O_vl := O_vl.new N_gz
      have G_gz := N_gz.ge HB (Nat.le_refl _); replace HB := N_gz.below HB (Nat.le_refl _); clear N_gz
      refine Kw.WL_v rfl rfl rfl (Kw.R_convbs (bs := (List.replicate z (0 : UInt8))) (r := (zerosB z)) Tryd.underlying32 Tryd.underlying5 Tryd.underlying9 rfl A_gz (by simp) (zeros_hc z) (rfl)) ?_
      refine Kw.WL_v rfl rfl rfl (Kw.R_adds (r := (row L ++ zerosB z)) rfl rfl (by rw [zerosB_size]; omega) (rfl)) ?_
      refine Kw.WL_call rfl rfl rfl rfl F.cl22 rfl (Fw (row L ++ zerosB z) (by rw [ByteArray.size_append, zerosB_size]; omega) _ _ (row_zeros L z hbig) _ HB) ?_; rintro _ w31 ⟨⟨vm, rfl, O_vm⟩, bw31⟩
      have D_vm_g : Kw.ob vm ≠ some g := fun e => absurd (O_vm.ge e) (Nat.not_le_of_lt A_g.lt); replace A_g := A_g.call bw31
      have D_vm_gz : Kw.ob vm ≠ some gz := fun e => absurd (O_vm.ge e) (Nat.not_le_of_lt A_gz.lt); replace A_gz := A_gz.call bw31
      replace O_vm := O_vm.mono HB.size
      replace O_vl := O_vl.call bw31
      replace HB := Kw.Below.then HB (Nat.le_refl _) bw31; clear bw31
      refine Kw.WL_v rfl rfl rfl (Kw.R_move rfl) ?_
      refine Kw.WL_v rfl rfl rfl (Kw.R_extract (v := vm) rfl rfl) ?_
      refine Kw.WL_v rfl rfl rfl (Kw.R_extract (v := .int .i64 ((row L).size : Int)) rfl rfl) ?_
      refine Kw.WL_v rfl rfl rfl (Kw.R_assign rfl) ?_
      refine Kw.WL_v rfl rfl rfl (Kw.R_assign rfl) ?_
      refine Kw.WL_nil ?_
      refine hK29 _ _ ?_; clear hK29 K29
      refine Kw.WC_sub (l' := [(0, .slice a1 L.length cap1), (7, .string (row L)), (8, .slice (some ⟨g, 0, none⟩) (L.length + 1 : Nat) capg), (11, .int .i64 (i : Int)), (12, vl), (13, .int .i64 ((row (L.take i)).size : Int)), (14, vm), (15, .int .i64 ((row L).size : Int))]) (Kw.Sub.cons rfl (Kw.Sub.cons rfl (Kw.Sub.cons rfl (Kw.Sub.cons rfl (Kw.Sub.cons rfl (Kw.Sub.cons rfl (Kw.Sub.cons rfl (Kw.Sub.cons rfl Kw.Sub.nil)))))))) ?_
      refine Kw.WC_seq (fun K32 hK32 => ?_)
      refine Kw.WC_region [some 64, some 65, some 66, some 67, some 68, some 69, some 70, some 71, some 72, some 73, some 74, some 75, some 76, some 77, some 78, some 79, some 80, some 81, some 82, some 83, some 84, some 85, some 86, some 87, some 88, some 89, some 90, some 6] rfl ?_
      refine Kw.WL_v rfl rfl rfl (Kw.R_move rfl) ?_
      refine Kw.WL_v rfl rfl rfl (Kw.R_move rfl) ?_
      refine Kw.WL_v rfl rfl rfl (Kw.R_move rfl) ?_
      refine Kw.WL_v rfl rfl rfl (R_slicehi (j := i) rfl rfl Tryd.underlying38 F.sz9 (by omega)) ?_
      refine Kw.WL_callc rfl rfl rfl rfl F.cl23 rfl (by have k := texts_c vl _ _ _ w31 (Strs.own O_vl) (Strs.sub (Strs.call S1 (HB.mono (Nat.le_refl _))) hi) (by rw [List.length_take]; omega); rw [decide_eq_true rfl] at k; exact k) ?_; intro w33 bw33
      replace A_g := A_g.call bw33
      replace A_gz := A_gz.call bw33
      replace HB := Kw.Below.then HB (Nat.le_refl _) bw33
      replace O_vl := O_vl.call bw33
      replace O_vm := O_vm.call bw33
      clear bw33
      refine Kw.WL_v rfl rfl rfl (Kw.R_move rfl) ?_
      refine Kw.WL_v rfl rfl rfl (Kw.R_move rfl) ?_
      refine Kw.WL_v rfl rfl rfl (Kw.R_move rfl) ?_
      refine Kw.WL_v rfl rfl rfl (Kw.R_move rfl) ?_
      refine Kw.WL_v rfl rfl rfl (Kw.R_indexAddrS (i := i) (o' := i) rfl rfl Tryd.underlying40 F.sz3 (by omega) (by omega)) ?_
      refine Kw.WL_v rfl rfl rfl (Kw.R_load1 (v := .int .i64 ((row (L.take i)).size : Int)) rfl Tryd.underlying3 rfl A_g ((Kw.Own.cellAt ht (by omega)).trans (endsN_get L _ _ (by omega)))) ?_
      refine Kw.WL_v rfl rfl rfl (Kw.R_eqi (z := true) rfl rfl (decide_eq_true rfl)) ?_
      refine Kw.WL_v rfl rfl rfl (Kw.R_pickt rfl rfl) ?_
      refine Kw.WL_v rfl rfl rfl (Kw.R_move rfl) ?_
      refine Kw.WL_v rfl rfl rfl (Kw.R_move rfl) ?_
      refine Kw.WL_v rfl rfl rfl (Kw.R_move rfl) ?_
      refine Kw.WL_callc rfl rfl rfl rfl F.cl23 rfl (by have k := texts_c vm _ _ _ w33 (Strs.own O_vm) (Strs.call S1 HB) (by omega); rw [decide_eq_true rfl] at k; exact k) ?_; intro w34 bw34
      replace A_g := A_g.call bw34
      replace A_gz := A_gz.call bw34
      replace HB := Kw.Below.then HB (Nat.le_refl _) bw34
      replace O_vl := O_vl.call bw34
      replace O_vm := O_vm.call bw34
      clear bw34
      refine Kw.WL_v rfl rfl rfl (Kw.R_pickt rfl rfl) ?_
      refine Kw.WL_v rfl rfl rfl (Kw.R_move rfl) ?_
      refine Kw.WL_v rfl rfl rfl (Kw.R_move rfl) ?_
      refine Kw.WL_v rfl rfl rfl (Kw.R_move rfl) ?_
      refine Kw.WL_v rfl rfl rfl (Kw.R_lens Tryd.underlying9 rfl) ?_
      refine Kw.WL_v rfl rfl rfl (Kw.R_eqi (z := true) rfl rfl (decide_eq_true rfl)) ?_
      refine Kw.WL_v rfl rfl rfl (Kw.R_pickt rfl rfl) ?_
      refine Kw.WL_v rfl rfl rfl (Kw.R_move rfl) ?_
      refine Kw.WL_callc rfl rfl rfl rfl F.cl17 rfl (Fr _ HB) ?_; intro w35 bw35
      replace A_g := A_g.call bw35
      replace A_gz := A_gz.call bw35
      replace HB := Kw.Below.then HB (Nat.le_refl _) bw35
      replace O_vl := O_vl.call bw35
      replace O_vm := O_vm.call bw35
      clear bw35
      refine Kw.WL_v rfl rfl rfl (Kw.R_pickt rfl rfl) ?_
      refine Kw.WL_v rfl rfl rfl (Kw.R_assign rfl) ?_
      refine Kw.WL_nil ?_
      refine hK32 _ _ ?_; clear hK32 K32
      refine Kw.WC_sub (l' := [(6, .bool true)]) (Kw.Sub.cons rfl Kw.Sub.nil) ?_
      refine Kw.WC_ret ?_
      exact Kw.post_ret1 rfl rfl ⟨rfl, HB⟩

set_option maxRecDepth 100000 in
set_option maxHeartbeats 4000000 in
theorem FramesLong_c (y : Int) (hy : -128 ≤ y ∧ y ≤ 127) (w : World) (h0 : Tab w 0 H8) (h1 : Tab w 1 K64) : Calls Tryd.prog 9 #[.int .i8 y] w fun e w' => e = .returned (.bool true) ∧ Below w.heap.size w w' := by
  have HB : Below w.heap.size w w := Below.refl _ _
  have Sd : ∀ (q : ByteArray), q.size ≤ 1000000 → ∀ (a : Int), -9223372036854775808 ≤ a ∧ a ≤ 9223372036854775807 → ∀ (w' : World), Below w.heap.size w w' → Calls Tryd.prog 20 #[.string q, .int .i64 a] w' fun e w2 => e = .returned (.bool true) ∧ Below w'.heap.size w' w2 := fun q hs a ha w' b => stands_c q hs a ha w' (tab_below h0 b) (tab_below h1 b)
  have Fr : ∀ (w' : World), Below w.heap.size w w' → Calls Tryd.prog 17 #[] w' fun e w2 => e = .returned (.bool true) ∧ Below w'.heap.size w' w2 := fun w' b => framed_c w' (tab_below h0 b) (tab_below h1 b)
  have Fw : ∀ (q : ByteArray), q.size ≤ 1000000 → ∀ (L : List ByteArray) (n : Nat), wholeV q = (L, n) → ∀ (w' : World), Below w.heap.size w w' → Calls Tryd.prog 22 #[.string q] w' (Kw.Back fun v w2 => (∃ vl, v = .tuple #[vl, .int .i64 (n : Int)] ∧ Kw.Own w2 w'.heap.size 9 1 vl L.length (strsL L)) ∧ Below w'.heap.size w' w2) := fun q hs L n hq w' b => by
    have k := fwhole_c q hs w' (tab_below h0 b) (tab_below h1 b)
    rw [hq] at k; exact k
  have Fp : ∀ (q : ByteArray), q.size ≤ 65536 → ∀ (w' : World), Below w.heap.size w w' → Calls Tryd.prog 18 #[.string q] w' fun e w2 => e = .returned (.tuple #[.string (frm q), .int .i64 0]) ∧ Below w'.heap.size w' w2 := fun q hs w' b => fput_c q hs w' (tab_below h0 b) (tab_below h1 b)
  have Fl : ∀ (q : ByteArray), 65536 < q.size → ∀ (w' : World), Below w.heap.size w w' → Calls Tryd.prog 18 #[.string q] w' fun e w2 => e = .returned (.tuple #[.string ⟨#[]⟩, .int .i64 3]) ∧ Below w'.heap.size w' w2 := fun q hs w' b => fput_long q hs w'
  clear h0 h1
  obtain ⟨n, hn⟩ : ∃ n : Nat, (n : Int) = 65536 + y := ⟨(65536 + y).toNat, by omega⟩
  refine Kw.enter Tryd.func9 rfl Tryd.ntmps9 rfl rfl ?_
  refine Kw.WC_seq (fun K1 hK1 => ?_)
  refine Kw.WC_region [some 2] rfl ?_
  refine Kw.WL_v rfl rfl rfl (Kw.R_assign rfl) ?_
  refine Kw.WL_nil ?_
  refine hK1 _ _ ?_; clear hK1 K1
  refine Kw.WC_seq (fun K2 hK2 => ?_)
  refine Kw.WC_region [some 8, some 9, some 10, some 3] rfl ?_
  refine Kw.WL_v rfl rfl rfl (Kw.R_move rfl) ?_
  refine Kw.WL_v rfl rfl rfl (Kw.R_conv (c := y) Tryd.underlying48 Tryd.underlying3 rfl (Kw.wrap_i64 (by omega))) ?_
  refine Kw.WL_v rfl rfl rfl (Kw.R_add (c := (n : Int)) rfl rfl (by rw [Kw.wrap_i64 (by omega)]; omega)) ?_
  refine Kw.WL_v rfl rfl rfl (Kw.R_assign rfl) ?_
  refine Kw.WL_nil ?_
  refine hK2 _ _ ?_; clear hK2 K2
  refine Kw.WC_seq (fun K3 hK3 => ?_)
  refine Kw.WC_region [some 12, some 13, some 14, some 15, some 11, some 16, some 17, some 4, some 5] rfl ?_
  refine Kw.WL_v rfl rfl rfl (Kw.R_move rfl) ?_
  obtain ⟨gz, w4, N_gz⟩ : ∃ b w2, Kw.Newb w b (Array.replicate n (.int .u8 0)) 5 w2 := ⟨_, _, rfl, rfl⟩
  refine Kw.WL_v rfl rfl rfl (Kw.R_makeSlice (len := n) (k := 0) (bytes := 0) rfl rfl Tryd.underlying32 (mk_zeros n (by omega)) N_gz) ?_
  have A_gz : Kw.At w4 gz (Array.replicate n (.int .u8 0)) 5 := N_gz.at_
  have G_gz := N_gz.ge HB (Nat.le_refl _); replace HB := N_gz.below HB (Nat.le_refl _); clear N_gz
  refine Kw.WL_v rfl rfl rfl (Kw.R_convbs (bs := (List.replicate n (0 : UInt8))) (r := (zerosB n)) Tryd.underlying32 Tryd.underlying5 Tryd.underlying9 rfl A_gz (by simp) (zeros_hc n) (rfl)) ?_
  by_cases hlong : 65536 < n
  ·
    refine Kw.WL_callc rfl rfl rfl rfl F.cl18 rfl (Fl (zerosB n) (by rw [zerosB_size]; omega) _ HB) ?_; intro w5 bw5
    replace A_gz := A_gz.call bw5
    replace HB := Kw.Below.then HB (Nat.le_refl _) bw5
    clear bw5
    refine Kw.WL_v rfl rfl rfl (Kw.R_move rfl) ?_
    refine Kw.WL_v rfl rfl rfl (Kw.R_extract (v := .string ⟨#[]⟩) rfl rfl) ?_
    refine Kw.WL_v rfl rfl rfl (Kw.R_extract (v := .int .i64 3) rfl rfl) ?_
    refine Kw.WL_v rfl rfl rfl (Kw.R_assign rfl) ?_
    refine Kw.WL_v rfl rfl rfl (Kw.R_assign rfl) ?_
    refine Kw.WL_nil ?_
    refine hK3 _ _ ?_; clear hK3 K3
    refine Kw.WC_sub (l' := [(0, .int .i8 y), (3, .int .i64 (n : Int)), (4, .string ⟨#[]⟩), (5, .int .i64 3)]) (Kw.Sub.cons rfl (Kw.Sub.cons rfl (Kw.Sub.cons rfl (Kw.Sub.cons rfl Kw.Sub.nil)))) ?_
    refine Kw.WC_seq (fun K6 hK6 => ?_)
    refine Kw.WC_seq (fun K7 hK7 => ?_)
    refine Kw.WC_region [some 18, some 19] rfl ?_
    refine Kw.WL_v rfl rfl rfl (Kw.R_move rfl) ?_
    refine Kw.WL_v rfl rfl rfl (Kw.R_gtr (z := true) rfl rfl (decide_eq_true (by omega))) ?_
    refine Kw.WL_nil ?_
    refine hK7 _ _ ?_; clear hK7 K7
    refine Kw.WC_true rfl ?_
    refine Kw.WC_seq (fun K8 hK8 => ?_)
    refine Kw.WC_region [some 20, some 21, some 22, some 23, some 24, some 25, some 26, some 27, some 28, some 2] rfl ?_
    refine Kw.WL_v rfl rfl rfl (Kw.R_move rfl) ?_
    refine Kw.WL_v rfl rfl rfl (Kw.R_eqs (z := true) rfl rfl (decide_eq_true rfl)) ?_
    refine Kw.WL_v rfl rfl rfl (Kw.R_move rfl) ?_
    refine Kw.WL_v rfl rfl rfl (Kw.R_move rfl) ?_
    refine Kw.WL_v rfl rfl rfl (Kw.R_eqi (z := true) rfl rfl (decide_eq_true rfl)) ?_
    refine Kw.WL_v rfl rfl rfl (Kw.R_pickt rfl rfl) ?_
    refine Kw.WL_v rfl rfl rfl (Kw.R_move rfl) ?_
    refine Kw.WL_callc rfl rfl rfl rfl F.cl17 rfl (Fr _ HB) ?_; intro w9 bw9
    replace A_gz := A_gz.call bw9
    replace HB := Kw.Below.then HB (Nat.le_refl _) bw9
    clear bw9
    refine Kw.WL_v rfl rfl rfl (Kw.R_pickt rfl rfl) ?_
    refine Kw.WL_v rfl rfl rfl (Kw.R_assign rfl) ?_
    refine Kw.WL_nil ?_
    refine hK8 _ _ ?_; clear hK8 K8
    refine Kw.WC_sub (l' := [(2, .bool true)]) (Kw.Sub.cons rfl Kw.Sub.nil) ?_
    refine Kw.WC_ret ?_
    refine Kw.QR_then ?_; clear hK6 K6
    exact Kw.post_ret1 rfl rfl ⟨rfl, HB⟩
  ·
    refine Kw.WL_callc rfl rfl rfl rfl F.cl18 rfl (Fp (zerosB n) (by rw [zerosB_size]; omega) _ HB) ?_; intro w10 bw10
    replace A_gz := A_gz.call bw10
    replace HB := Kw.Below.then HB (Nat.le_refl _) bw10
    clear bw10
    have hfs : (frm (zerosB n)).size = 12 + n := by rw [frm_size, zerosB_size]
    refine Kw.WL_v rfl rfl rfl (Kw.R_move rfl) ?_
    refine Kw.WL_v rfl rfl rfl (Kw.R_extract (v := .string (frm (zerosB n))) rfl rfl) ?_
    refine Kw.WL_v rfl rfl rfl (Kw.R_extract (v := .int .i64 0) rfl rfl) ?_
    refine Kw.WL_v rfl rfl rfl (Kw.R_assign rfl) ?_
    refine Kw.WL_v rfl rfl rfl (Kw.R_assign rfl) ?_
    refine Kw.WL_nil ?_
    refine hK3 _ _ ?_; clear hK3 K3
    refine Kw.WC_sub (l' := [(0, .int .i8 y), (3, .int .i64 (n : Int)), (4, .string (frm (zerosB n))), (5, .int .i64 0)]) (Kw.Sub.cons rfl (Kw.Sub.cons rfl (Kw.Sub.cons rfl (Kw.Sub.cons rfl Kw.Sub.nil)))) ?_
    refine Kw.WC_seq (fun K11 hK11 => ?_)
    refine Kw.WC_seq (fun K12 hK12 => ?_)
    refine Kw.WC_region [some 18, some 19] rfl ?_
    refine Kw.WL_v rfl rfl rfl (Kw.R_move rfl) ?_
    refine Kw.WL_v rfl rfl rfl (Kw.R_gtr (z := false) rfl rfl (decide_eq_false (by omega))) ?_
    refine Kw.WL_nil ?_
    refine hK12 _ _ ?_; clear hK12 K12
    refine Kw.WC_false rfl ?_
    refine Kw.WC_skip ?_
    refine hK11 _ _ ?_; clear hK11 K11
    refine Kw.WC_seq (fun K13 hK13 => ?_)
    refine Kw.WC_region [some 30, some 31, some 29, some 32, some 33, some 6, some 7] rfl ?_
    have hw1 : wholeV (frm (zerosB n)) = ([zerosB n], 12 + n) := by
      have k := whole_frm (zerosB n) ByteArray.empty (by rw [zerosB_size]; omega)
      rw [ByteArray.append_empty, whole_nil, zerosB_size] at k; exact k
    refine Kw.WL_v rfl rfl rfl (Kw.R_move rfl) ?_
    refine Kw.WL_call rfl rfl rfl rfl F.cl22 rfl (Fw (frm (zerosB n)) (by omega) _ _ hw1 _ HB) ?_; rintro _ w14 ⟨⟨vl, rfl, O_vl⟩, bw14⟩
    have D_vl_gz : Kw.ob vl ≠ some gz := fun e => absurd (O_vl.ge e) (Nat.not_le_of_lt A_gz.lt); replace A_gz := A_gz.call bw14
    replace O_vl := O_vl.mono HB.size
    replace HB := Kw.Below.then HB (Nat.le_refl _) bw14; clear bw14
    refine Kw.WL_v rfl rfl rfl (Kw.R_move rfl) ?_
    refine Kw.WL_v rfl rfl rfl (Kw.R_extract (v := vl) rfl rfl) ?_
    refine Kw.WL_v rfl rfl rfl (Kw.R_extract (v := .int .i64 ((12 + n) : Int)) rfl rfl) ?_
    refine Kw.WL_v rfl rfl rfl (Kw.R_assign rfl) ?_
    refine Kw.WL_v rfl rfl rfl (Kw.R_assign rfl) ?_
    refine Kw.WL_nil ?_
    refine hK13 _ _ ?_; clear hK13 K13
    refine Kw.WC_sub (l' := [(3, .int .i64 (n : Int)), (4, .string (frm (zerosB n))), (5, .int .i64 0), (6, vl), (7, .int .i64 ((12 + n) : Int))]) (Kw.Sub.cons rfl (Kw.Sub.cons rfl (Kw.Sub.cons rfl (Kw.Sub.cons rfl (Kw.Sub.cons rfl Kw.Sub.nil))))) ?_
    refine Kw.WC_seq (fun K15 hK15 => ?_)
    refine Kw.WC_region [some 34, some 35, some 36, some 37, some 38, some 39, some 40, some 41, some 42, some 43, some 44, some 45, some 46, some 47, some 48, some 49, some 50, some 51, some 52, some 53, some 54, some 55, some 56, some 2] rfl ?_
    refine Kw.WL_v rfl rfl rfl (Kw.R_move rfl) ?_
    refine Kw.WL_v rfl rfl rfl (Kw.R_eqi (z := true) rfl rfl (decide_eq_true rfl)) ?_
    refine Kw.WL_v rfl rfl rfl (Kw.R_move rfl) ?_
    refine Kw.WL_v rfl rfl rfl (Kw.R_move rfl) ?_
    refine Kw.WL_v rfl rfl rfl (Kw.R_lens Tryd.underlying9 rfl) ?_
    refine Kw.WL_v rfl rfl rfl (Kw.R_move rfl) ?_
    refine Kw.WL_v rfl rfl rfl (Kw.R_add (c := ((n + 12 : Nat) : Int)) rfl rfl (by rw [Kw.wrap_i64 (by omega)]; omega)) ?_
    refine Kw.WL_v rfl rfl rfl (Kw.R_eqi (z := true) rfl rfl (decide_eq_true (by omega))) ?_
    refine Kw.WL_v rfl rfl rfl (Kw.R_pickt rfl rfl) ?_
    refine Kw.WL_v rfl rfl rfl (Kw.R_move rfl) ?_
    refine Kw.WL_v rfl rfl rfl (Kw.R_move rfl) ?_
    refine Kw.WL_v rfl rfl rfl (Kw.R_leno Tryd.underlying38 rfl O_vl) ?_
    refine Kw.WL_v rfl rfl rfl (Kw.R_eqi (z := true) rfl rfl (decide_eq_true rfl)) ?_
    refine Kw.WL_v rfl rfl rfl (Kw.R_pickt rfl rfl) ?_
    refine Kw.WL_v rfl rfl rfl (Kw.R_move rfl) ?_
    refine Kw.WL_v rfl rfl rfl (Kw.R_move rfl) ?_
    refine Kw.WL_v rfl rfl rfl (Kw.R_move rfl) ?_
    refine Kw.WL_v rfl rfl rfl (Kw.R_lens Tryd.underlying9 rfl) ?_
    refine Kw.WL_v rfl rfl rfl (Kw.R_eqi (z := true) rfl rfl (decide_eq_true (by omega))) ?_
    refine Kw.WL_v rfl rfl rfl (Kw.R_pickt rfl rfl) ?_
    refine Kw.WL_v rfl rfl rfl (Kw.R_move rfl) ?_
    refine Kw.WL_callc rfl rfl rfl rfl F.cl17 rfl (Fr _ HB) ?_; intro w16 bw16
    replace A_gz := A_gz.call bw16
    replace HB := Kw.Below.then HB (Nat.le_refl _) bw16
    replace O_vl := O_vl.call bw16
    clear bw16
    refine Kw.WL_v rfl rfl rfl (Kw.R_pickt rfl rfl) ?_
    refine Kw.WL_v rfl rfl rfl (Kw.R_assign rfl) ?_
    refine Kw.WL_nil ?_
    refine hK15 _ _ ?_; clear hK15 K15
    refine Kw.WC_sub (l' := [(2, .bool true)]) (Kw.Sub.cons rfl Kw.Sub.nil) ?_
    refine Kw.WC_ret ?_
    exact Kw.post_ret1 rfl rfl ⟨rfl, HB⟩
end Go.Proofs.YtngkedoaijlnlaaDoor.Fn
