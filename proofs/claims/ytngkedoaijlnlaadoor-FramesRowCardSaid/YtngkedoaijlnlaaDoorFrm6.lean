/- FramesTell and FramesRow answer true. -/
import Derived.Test.YtngkedoaijlnlaaDoorFrm4
namespace Go.Proofs.YtngkedoaijlnlaaDoor.Fn
open Go Go.Proofs Go.RowKit Go.Proofs.YtngkedoaijlnlaaDoorW.PrintWords Go.Proofs.YtngkedoaijlnlaaDoorW.PrintLast Go.Proofs.YtngkedoaijlnlaaDoorW.PrintMore
set_option linter.unusedVariables false
set_option linter.unusedSimpArgs false
set_option maxRecDepth 100000 in
set_option maxHeartbeats 4000000 in
theorem FramesTell_c (s : ByteArray) (a : Int) (ha : -9223372036854775808 ≤ a ∧ a ≤ 9223372036854775807) (w : World) (h0 : Tab w 0 H8) (h1 : Tab w 1 K64) : Calls Tryd.prog 6 #[.string s, .int .i64 a] w fun e w' => e = .returned (.bool true) ∧ Below w.heap.size w w' := by
  have HB : Below w.heap.size w w := Below.refl _ _
  have Sd : ∀ (q : ByteArray), q.size ≤ 1000000 → ∀ (a : Int), -9223372036854775808 ≤ a ∧ a ≤ 9223372036854775807 → ∀ (w' : World), Below w.heap.size w w' → Calls Tryd.prog 20 #[.string q, .int .i64 a] w' fun e w2 => e = .returned (.bool true) ∧ Below w'.heap.size w' w2 := fun q hs a ha w' b => stands_c q hs a ha w' (tab_below h0 b) (tab_below h1 b)
  have Fr : ∀ (w' : World), Below w.heap.size w w' → Calls Tryd.prog 17 #[] w' fun e w2 => e = .returned (.bool true) ∧ Below w'.heap.size w' w2 := fun w' b => framed_c w' (tab_below h0 b) (tab_below h1 b)
  have Fp : ∀ (q : ByteArray), q.size ≤ 65536 → ∀ (w' : World), Below w.heap.size w w' → Calls Tryd.prog 18 #[.string q] w' fun e w2 => e = .returned (.tuple #[.string (frm q), .int .i64 0]) ∧ Below w'.heap.size w' w2 := fun q hs w' b => fput_c q hs w' (tab_below h0 b) (tab_below h1 b)
  clear h0 h1
  refine Kw.enter Tryd.func6 rfl Tryd.ntmps6 rfl rfl ?_
  refine Kw.WC_seq (fun K1 hK1 => ?_)
  refine Kw.WC_region [some 4] rfl ?_
  refine Kw.WL_v rfl rfl rfl (Kw.R_assign rfl) ?_
  refine Kw.WL_nil ?_
  refine hK1 _ _ ?_; clear hK1 K1
  refine Kw.WC_seq (fun K2 hK2 => ?_)
  refine Kw.WC_seq (fun K3 hK3 => ?_)
  refine Kw.WC_region [some 9, some 10, some 11] rfl ?_
  refine Kw.WL_v rfl rfl rfl (Kw.R_move rfl) ?_
  refine Kw.WL_v rfl rfl rfl (Kw.R_lens Tryd.underlying9 rfl) ?_
  by_cases c4 : (2000 : Int) < (s.size : Int)
  ·
    refine Kw.WL_v rfl rfl rfl (Kw.R_gtr (z := true) rfl rfl (decide_eq_true c4)) ?_
    refine Kw.WL_nil ?_
    refine hK3 _ _ ?_; clear hK3 K3
    refine Kw.WC_true rfl ?_
    refine Kw.WC_seq (fun K5 hK5 => ?_)
    refine Kw.WC_region [some 12, some 4] rfl ?_
    refine Kw.WL_callc rfl rfl rfl rfl F.cl17 rfl (Fr _ HB) ?_; intro w6 bw6
    replace HB := Kw.Below.then HB (Nat.le_refl _) bw6
    clear bw6
    refine Kw.WL_v rfl rfl rfl (Kw.R_assign rfl) ?_
    refine Kw.WL_nil ?_
    refine hK5 _ _ ?_; clear hK5 K5
    refine Kw.WC_sub (l' := [(4, .bool true)]) (Kw.Sub.cons rfl Kw.Sub.nil) ?_
    refine Kw.WC_ret ?_
    refine Kw.QR_then ?_; clear hK2 K2
    exact Kw.post_ret1 rfl rfl ⟨rfl, HB⟩
  ·
    refine Kw.WL_v rfl rfl rfl (Kw.R_gtr (z := false) rfl rfl (decide_eq_false c4)) ?_
    refine Kw.WL_nil ?_
    refine hK3 _ _ ?_; clear hK3 K3
    refine Kw.WC_false rfl ?_
    refine Kw.WC_skip ?_
    refine hK2 _ _ ?_; clear hK2 K2
    refine Kw.WC_seq (fun K7 hK7 => ?_)
    refine Kw.WC_region [some 14, some 15, some 13, some 16, some 17, some 5, some 6] rfl ?_
    refine Kw.WL_v rfl rfl rfl (Kw.R_move rfl) ?_
    refine Kw.WL_callc rfl rfl rfl rfl F.cl18 rfl (Fp s (by omega) _ HB) ?_; intro w8 bw8
    replace HB := Kw.Below.then HB (Nat.le_refl _) bw8
    clear bw8
    have z := frm_size s
    refine Kw.WL_v rfl rfl rfl (Kw.R_move rfl) ?_
    refine Kw.WL_v rfl rfl rfl (Kw.R_extract (v := .string (frm s)) rfl rfl) ?_
    refine Kw.WL_v rfl rfl rfl (Kw.R_extract (v := .int .i64 0) rfl rfl) ?_
    refine Kw.WL_v rfl rfl rfl (Kw.R_assign rfl) ?_
    refine Kw.WL_v rfl rfl rfl (Kw.R_assign rfl) ?_
    refine Kw.WL_nil ?_
    refine hK7 _ _ ?_; clear hK7 K7
    refine Kw.WC_sub (l' := [(0, .string s), (1, .int .i64 a), (5, .string (frm s)), (6, .int .i64 0)]) (Kw.Sub.cons rfl (Kw.Sub.cons rfl (Kw.Sub.cons rfl (Kw.Sub.cons rfl Kw.Sub.nil)))) ?_
    refine Kw.WC_seq (fun K9 hK9 => ?_)
    refine Kw.WC_region [some 19, some 20, some 18, some 21, some 22, some 7, some 8] rfl ?_
    refine Kw.WL_v rfl rfl rfl (Kw.R_move rfl) ?_
    refine Kw.WL_callc rfl rfl rfl rfl F.cl19 rfl (refput_c s (by omega) w8) ?_; intro w10 bw10
    replace HB := Kw.Below.then HB (Nat.le_refl _) bw10
    clear bw10
    refine Kw.WL_v rfl rfl rfl (Kw.R_move rfl) ?_
    refine Kw.WL_v rfl rfl rfl (Kw.R_extract (v := .string (frm s)) rfl rfl) ?_
    refine Kw.WL_v rfl rfl rfl (Kw.R_extract (v := .int .i64 0) rfl rfl) ?_
    refine Kw.WL_v rfl rfl rfl (Kw.R_assign rfl) ?_
    refine Kw.WL_v rfl rfl rfl (Kw.R_assign rfl) ?_
    refine Kw.WL_nil ?_
    refine hK9 _ _ ?_; clear hK9 K9
    refine Kw.WC_seq (fun K11 hK11 => ?_)
    refine Kw.WC_region [some 23, some 24, some 25, some 26, some 27, some 28, some 29, some 30, some 31, some 32, some 33, some 34, some 35, some 36, some 37, some 38, some 39, some 40, some 41, some 42, some 43, some 4] rfl ?_
    refine Kw.WL_v rfl rfl rfl (Kw.R_move rfl) ?_
    refine Kw.WL_v rfl rfl rfl (Kw.R_move rfl) ?_
    refine Kw.WL_v rfl rfl rfl (Kw.R_eqs (z := true) rfl rfl (decide_eq_true rfl)) ?_
    refine Kw.WL_v rfl rfl rfl (Kw.R_move rfl) ?_
    refine Kw.WL_v rfl rfl rfl (Kw.R_move rfl) ?_
    refine Kw.WL_v rfl rfl rfl (Kw.R_move rfl) ?_
    refine Kw.WL_v rfl rfl rfl (Kw.R_eqi (z := true) rfl rfl (decide_eq_true rfl)) ?_
    refine Kw.WL_v rfl rfl rfl (Kw.R_pickt rfl rfl) ?_
    refine Kw.WL_v rfl rfl rfl (Kw.R_move rfl) ?_
    refine Kw.WL_v rfl rfl rfl (Kw.R_move rfl) ?_
    refine Kw.WL_v rfl rfl rfl (Kw.R_move rfl) ?_
    refine Kw.WL_callc rfl rfl rfl rfl F.cl20 rfl (Sd s (by omega) a ha _ HB) ?_; intro w12 bw12
    replace HB := Kw.Below.then HB (Nat.le_refl _) bw12
    clear bw12
    refine Kw.WL_v rfl rfl rfl (Kw.R_pickt rfl rfl) ?_
    refine Kw.WL_v rfl rfl rfl (Kw.R_move rfl) ?_
    refine Kw.WL_v rfl rfl rfl (Kw.R_move rfl) ?_
    refine Kw.WL_v rfl rfl rfl (Kw.R_move rfl) ?_
    refine Kw.WL_callc rfl rfl rfl rfl F.cl20 rfl (Sd (frm s) (by omega) a ha _ HB) ?_; intro w13 bw13
    replace HB := Kw.Below.then HB (Nat.le_refl _) bw13
    clear bw13
    refine Kw.WL_v rfl rfl rfl (Kw.R_pickt rfl rfl) ?_
    refine Kw.WL_v rfl rfl rfl (Kw.R_move rfl) ?_
    refine Kw.WL_callc rfl rfl rfl rfl F.cl17 rfl (Fr _ HB) ?_; intro w14 bw14
    replace HB := Kw.Below.then HB (Nat.le_refl _) bw14
    clear bw14
    refine Kw.WL_v rfl rfl rfl (Kw.R_pickt rfl rfl) ?_
    refine Kw.WL_v rfl rfl rfl (Kw.R_assign rfl) ?_
    refine Kw.WL_nil ?_
    refine hK11 _ _ ?_; clear hK11 K11
    refine Kw.WC_sub (l' := [(4, .bool true)]) (Kw.Sub.cons rfl Kw.Sub.nil) ?_
    refine Kw.WC_ret ?_
    exact Kw.post_ret1 rfl rfl ⟨rfl, HB⟩

set_option maxRecDepth 100000 in
set_option maxHeartbeats 4000000 in
theorem FramesRow_c (v1 : Value) (L : List ByteArray) (b : ByteArray) (k : Nat) (hk : k ≤ 65535) (w : World) (S1 : Strs w v1 L) (h0 : Tab w 0 H8) (h1 : Tab w 1 K64) : Calls Tryd.prog 7 #[v1, .string b, .int .u16 (k : Int)] w fun e w' => e = .returned (.bool true) ∧ Below w.heap.size w w' := by
  have HB : Below w.heap.size w w := Below.refl _ _
  have Sd : ∀ (q : ByteArray), q.size ≤ 1000000 → ∀ (a : Int), -9223372036854775808 ≤ a ∧ a ≤ 9223372036854775807 → ∀ (w' : World), Below w.heap.size w w' → Calls Tryd.prog 20 #[.string q, .int .i64 a] w' fun e w2 => e = .returned (.bool true) ∧ Below w'.heap.size w' w2 := fun q hs a ha w' b => stands_c q hs a ha w' (tab_below h0 b) (tab_below h1 b)
  have Fr : ∀ (w' : World), Below w.heap.size w w' → Calls Tryd.prog 17 #[] w' fun e w2 => e = .returned (.bool true) ∧ Below w'.heap.size w' w2 := fun w' b => framed_c w' (tab_below h0 b) (tab_below h1 b)
  clear h0 h1
  refine Kw.enter Tryd.func7 rfl Tryd.ntmps7 rfl rfl ?_
  refine Kw.WC_seq (fun K1 hK1 => ?_)
  refine Kw.WC_region [some 6] rfl ?_
  refine Kw.WL_v rfl rfl rfl (Kw.R_assign rfl) ?_
  refine Kw.WL_nil ?_
  refine hK1 _ _ ?_; clear hK1 K1
  refine Kw.WC_seq (fun K2 hK2 => ?_)
  refine Kw.WC_region [some 11, some 12, some 10, some 13, some 14, some 15, some 7, some 8, some 9] rfl ?_
  refine Kw.WL_v rfl rfl rfl (Kw.R_move rfl) ?_
  refine Kw.WL_call rfl rfl rfl rfl F.cl21 rfl (row_c v1 L w (S1)) ?_; rintro _ w3 ⟨⟨hno, rfl⟩ | ⟨hok, vl, rfl, O_vl⟩, bw3⟩
  ·
    replace HB := Kw.Below.then HB (Nat.le_refl _) bw3; clear bw3
    refine Kw.WL_v rfl rfl rfl (Kw.R_move rfl) ?_
    refine Kw.WL_v rfl rfl rfl (Kw.R_extract (v := .string ⟨#[]⟩) rfl rfl) ?_
    refine Kw.WL_v rfl rfl rfl (Kw.R_extract (v := .slice none 0 0) rfl rfl) ?_
    refine Kw.WL_v rfl rfl rfl (Kw.R_extract (v := .bool false) rfl rfl) ?_
    refine Kw.WL_v rfl rfl rfl (Kw.R_assign rfl) ?_
    refine Kw.WL_v rfl rfl rfl (Kw.R_assign rfl) ?_
    refine Kw.WL_v rfl rfl rfl (Kw.R_assign rfl) ?_
    refine Kw.WL_nil ?_
    refine hK2 _ _ ?_; clear hK2 K2
    refine Kw.WC_sub (l' := [(1, .string b), (2, .int .u16 (k : Int)), (7, .string ⟨#[]⟩), (8, .slice none 0 0), (9, .bool false)]) (Kw.Sub.cons rfl (Kw.Sub.cons rfl (Kw.Sub.cons rfl (Kw.Sub.cons rfl (Kw.Sub.cons rfl Kw.Sub.nil))))) ?_
    refine Kw.WC_seq (fun K4 hK4 => ?_)
    refine Kw.WC_seq (fun K5 hK5 => ?_)
    refine Kw.WC_region [some 16, some 17, some 18, some 19, some 20, some 21, some 22] rfl ?_
    refine Kw.WL_v rfl rfl rfl (Kw.R_move rfl) ?_
    refine Kw.WL_v rfl rfl rfl (Kw.R_not rfl rfl) ?_
    refine Kw.WL_v rfl rfl rfl (Kw.R_move rfl) ?_
    refine Kw.WL_off rfl rfl rfl ?_
    refine Kw.WL_off rfl rfl rfl ?_
    refine Kw.WL_off rfl rfl rfl ?_
    refine Kw.WL_v rfl rfl rfl (Kw.R_pickt rfl rfl) ?_
    refine Kw.WL_nil ?_
    refine hK5 _ _ ?_; clear hK5 K5
    refine Kw.WC_sub (l' := [(1, .string b), (2, .int .u16 (k : Int)), (7, .string ⟨#[]⟩), (8, .slice none 0 0), (22, .bool true)]) (Kw.Sub.cons rfl (Kw.Sub.cons rfl (Kw.Sub.cons rfl (Kw.Sub.cons rfl (Kw.Sub.cons rfl Kw.Sub.nil))))) ?_
    refine Kw.WC_true rfl ?_
    refine Kw.WC_seq (fun K6 hK6 => ?_)
    refine Kw.WC_region [some 23, some 6] rfl ?_
    refine Kw.WL_callc rfl rfl rfl rfl F.cl17 rfl (Fr _ HB) ?_; intro w7 bw7
    replace HB := Kw.Below.then HB (Nat.le_refl _) bw7
    clear bw7
    refine Kw.WL_v rfl rfl rfl (Kw.R_assign rfl) ?_
    refine Kw.WL_nil ?_
    refine hK6 _ _ ?_; clear hK6 K6
    refine Kw.WC_sub (l' := [(6, .bool true)]) (Kw.Sub.cons rfl Kw.Sub.nil) ?_
    refine Kw.WC_ret ?_
    refine Kw.QR_then ?_; clear hK4 K4
    exact Kw.post_ret1 rfl rfl ⟨rfl, HB⟩
  ·
    replace O_vl := O_vl.mono HB.size
    obtain ⟨g, capg, cur, rfl, hg, A_g, hgc, hgs, ht⟩ := O_vl.open (by omega)
    replace HB := Kw.Below.then HB (Nat.le_refl _) bw3; clear bw3
    have hrs := row_size L hok.2; have hLn := hok.1
    refine Kw.WL_v rfl rfl rfl (Kw.R_move rfl) ?_
    refine Kw.WL_v rfl rfl rfl (Kw.R_extract (v := .string (row L)) rfl rfl) ?_
    refine Kw.WL_v rfl rfl rfl (Kw.R_extract (v := .slice (some ⟨g, 0, none⟩) (L.length + 1 : Nat) capg) rfl rfl) ?_
    refine Kw.WL_v rfl rfl rfl (Kw.R_extract (v := .bool true) rfl rfl) ?_
    refine Kw.WL_v rfl rfl rfl (Kw.R_assign rfl) ?_
    refine Kw.WL_v rfl rfl rfl (Kw.R_assign rfl) ?_
    refine Kw.WL_v rfl rfl rfl (Kw.R_assign rfl) ?_
    refine Kw.WL_nil ?_
    refine hK2 _ _ ?_; clear hK2 K2
    refine Kw.WC_sub (l' := [(1, .string b), (2, .int .u16 (k : Int)), (7, .string (row L)), (8, .slice (some ⟨g, 0, none⟩) (L.length + 1 : Nat) capg), (9, .bool true)]) (Kw.Sub.cons rfl (Kw.Sub.cons rfl (Kw.Sub.cons rfl (Kw.Sub.cons rfl (Kw.Sub.cons rfl Kw.Sub.nil))))) ?_
    refine Kw.WC_seq (fun K8 hK8 => ?_)
    refine Kw.WC_seq (fun K9 hK9 => ?_)
    refine Kw.WC_region [some 16, some 17, some 18, some 19, some 20, some 21, some 22] rfl ?_
    refine Kw.WL_v rfl rfl rfl (Kw.R_move rfl) ?_
    refine Kw.WL_v rfl rfl rfl (Kw.R_not rfl rfl) ?_
    refine Kw.WL_v rfl rfl rfl (Kw.R_move rfl) ?_
    refine Kw.WL_v rfl rfl rfl (Kw.R_move rfl) ?_
    refine Kw.WL_v rfl rfl rfl (Kw.R_lens Tryd.underlying9 rfl) ?_
    by_cases c10 : (100 : Int) < (b.size : Int)
    ·
      refine Kw.WL_v rfl rfl rfl (Kw.R_gtr (z := true) rfl rfl (decide_eq_true c10)) ?_
      refine Kw.WL_v rfl rfl rfl (Kw.R_pickf rfl rfl) ?_
      refine Kw.WL_nil ?_
      refine hK9 _ _ ?_; clear hK9 K9
      refine Kw.WC_sub (l' := [(1, .string b), (2, .int .u16 (k : Int)), (7, .string (row L)), (8, .slice (some ⟨g, 0, none⟩) (L.length + 1 : Nat) capg), (22, .bool true)]) (Kw.Sub.cons rfl (Kw.Sub.cons rfl (Kw.Sub.cons rfl (Kw.Sub.cons rfl (Kw.Sub.cons rfl Kw.Sub.nil))))) ?_
      refine Kw.WC_true rfl ?_
      refine Kw.WC_seq (fun K11 hK11 => ?_)
      refine Kw.WC_region [some 23, some 6] rfl ?_
      refine Kw.WL_callc rfl rfl rfl rfl F.cl17 rfl (Fr _ HB) ?_; intro w12 bw12
      replace A_g := A_g.call bw12
      replace HB := Kw.Below.then HB (Nat.le_refl _) bw12
      clear bw12
      refine Kw.WL_v rfl rfl rfl (Kw.R_assign rfl) ?_
      refine Kw.WL_nil ?_
      refine hK11 _ _ ?_; clear hK11 K11
      refine Kw.WC_sub (l' := [(6, .bool true)]) (Kw.Sub.cons rfl Kw.Sub.nil) ?_
      refine Kw.WC_ret ?_
      refine Kw.QR_then ?_; clear hK8 K8
      exact Kw.post_ret1 rfl rfl ⟨rfl, HB⟩
    ·
      refine Kw.WL_v rfl rfl rfl (Kw.R_gtr (z := false) rfl rfl (decide_eq_false c10)) ?_
      refine Kw.WL_v rfl rfl rfl (Kw.R_pickf rfl rfl) ?_
      refine Kw.WL_nil ?_
      refine hK9 _ _ ?_; clear hK9 K9
      refine Kw.WC_sub (l' := [(1, .string b), (2, .int .u16 (k : Int)), (7, .string (row L)), (8, .slice (some ⟨g, 0, none⟩) (L.length + 1 : Nat) capg), (22, .bool false)]) (Kw.Sub.cons rfl (Kw.Sub.cons rfl (Kw.Sub.cons rfl (Kw.Sub.cons rfl (Kw.Sub.cons rfl Kw.Sub.nil))))) ?_
      refine Kw.WC_false rfl ?_
      refine Kw.WC_skip ?_
      refine hK8 _ _ ?_; clear hK8 K8
      refine Kw.WC_seq (fun K13 hK13 => ?_)
      refine Kw.WC_region [some 24, some 25, some 26, some 7] rfl ?_
      refine Kw.WL_v rfl rfl rfl (Kw.R_move rfl) ?_
      refine Kw.WL_v rfl rfl rfl (Kw.R_move rfl) ?_
      refine Kw.WL_v rfl rfl rfl (Kw.R_adds (r := (row L ++ b)) rfl rfl (by omega) (rfl)) ?_
      refine Kw.WL_v rfl rfl rfl (Kw.R_assign rfl) ?_
      refine Kw.WL_nil ?_
      refine hK13 _ _ ?_; clear hK13 K13
      refine Kw.WC_seq (fun K14 hK14 => ?_)
      refine Kw.WC_region [some 27, some 28, some 29, some 30, some 31, some 32, some 33, some 34, some 35, some 36, some 37, some 38, some 39, some 40, some 41, some 42, some 43, some 44, some 45, some 46, some 47, some 48, some 49, some 6] rfl ?_
      refine Kw.WL_v rfl rfl rfl (Kw.R_move rfl) ?_
      refine Kw.WL_v rfl rfl rfl (Kw.R_move rfl) ?_
      refine Kw.WL_v rfl rfl rfl (Kw.R_move rfl) ?_
      refine Kw.WL_v rfl rfl rfl (Kw.R_conv (c := (k : Int)) Tryd.underlying39 Tryd.underlying3 rfl (Kw.wrap_i64 (by omega))) ?_
      refine Kw.WL_v rfl rfl rfl (Kw.R_move rfl) ?_
      refine Kw.WL_v rfl rfl rfl (Kw.R_lenl Tryd.underlying40 rfl) ?_
      refine Kw.WL_v rfl rfl rfl (Kw.R_rem (c := ((k % (L.length + 1) : Nat) : Int)) rfl rfl (by omega) (by rw [Kw.tmod_pos (by omega)]; exact (Int.natCast_emod _ _).symm)) ?_
      refine Kw.WL_v rfl rfl rfl (Kw.R_indexAddrS (i := (k % (L.length + 1) : Nat)) (o' := (k % (L.length + 1))) rfl rfl Tryd.underlying40 F.sz3 (Nat.mod_lt _ (by omega)) (by omega)) ?_
      refine Kw.WL_v rfl rfl rfl (Kw.R_load1 (v := .int .i64 ((row (L.take (k % (L.length + 1)))).size : Int)) rfl Tryd.underlying3 rfl A_g ((Kw.Own.cellAt ht (by have := Nat.mod_lt k (show 0 < L.length + 1 by omega); omega)).trans (endsN_get L _ _ (by have := Nat.mod_lt k (show 0 < L.length + 1 by omega); omega)))) ?_
      refine Kw.WL_callc rfl rfl rfl rfl F.cl20 rfl (Sd (row L ++ b) (by rw [ByteArray.size_append]; omega) _ (by have := row_size (L.take (k % (L.length + 1))) (fun p hp => hok.2 p (List.mem_of_mem_take hp)); rw [List.length_take] at this; omega) _ HB) ?_; intro w15 bw15
      replace A_g := A_g.call bw15
      replace HB := Kw.Below.then HB (Nat.le_refl _) bw15
      clear bw15
      refine Kw.WL_v rfl rfl rfl (Kw.R_move rfl) ?_
      refine Kw.WL_v rfl rfl rfl (Kw.R_move rfl) ?_
      refine Kw.WL_v rfl rfl rfl (Kw.R_move rfl) ?_
      refine Kw.WL_v rfl rfl rfl (Kw.R_conv (c := (k : Int)) Tryd.underlying39 Tryd.underlying3 rfl (Kw.wrap_i64 (by omega))) ?_
      refine Kw.WL_v rfl rfl rfl (Kw.R_move rfl) ?_
      refine Kw.WL_v rfl rfl rfl (Kw.R_lens Tryd.underlying9 rfl) ?_
      refine Kw.WL_v rfl rfl rfl (Kw.R_add (c := (((row L ++ b).size + 1 : Nat) : Int)) rfl rfl (by rw [Kw.wrap_i64 (by rw [ByteArray.size_append]; omega)]; omega)) ?_
      refine Kw.WL_v rfl rfl rfl (Kw.R_rem (c := ((k % ((row L ++ b).size + 1) : Nat) : Int)) rfl rfl (by omega) (by rw [Kw.tmod_pos (by omega)]; exact (Int.natCast_emod _ _).symm)) ?_
      refine Kw.WL_callc rfl rfl rfl rfl F.cl20 rfl (Sd (row L ++ b) (by rw [ByteArray.size_append]; omega) _ (by have := Nat.mod_lt k (show 0 < (row L ++ b).size + 1 by omega); rw [ByteArray.size_append] at *; omega) _ HB) ?_; intro w16 bw16
      replace A_g := A_g.call bw16
      replace HB := Kw.Below.then HB (Nat.le_refl _) bw16
      clear bw16
      refine Kw.WL_v rfl rfl rfl (Kw.R_pickt rfl rfl) ?_
      refine Kw.WL_v rfl rfl rfl (Kw.R_move rfl) ?_
      refine Kw.WL_callc rfl rfl rfl rfl F.cl17 rfl (Fr _ HB) ?_; intro w17 bw17
      replace A_g := A_g.call bw17
      replace HB := Kw.Below.then HB (Nat.le_refl _) bw17
      clear bw17
      refine Kw.WL_v rfl rfl rfl (Kw.R_pickt rfl rfl) ?_
      refine Kw.WL_v rfl rfl rfl (Kw.R_assign rfl) ?_
      refine Kw.WL_nil ?_
      refine hK14 _ _ ?_; clear hK14 K14
      refine Kw.WC_sub (l' := [(6, .bool true)]) (Kw.Sub.cons rfl Kw.Sub.nil) ?_
      refine Kw.WC_ret ?_
      exact Kw.post_ret1 rfl rfl ⟨rfl, HB⟩
end Go.Proofs.YtngkedoaijlnlaaDoor.Fn
