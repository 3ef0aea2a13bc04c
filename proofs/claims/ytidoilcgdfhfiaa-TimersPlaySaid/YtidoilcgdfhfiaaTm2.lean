/- The order of timers: cmp.Compare, cmp.Or and the closure of Due as contracts. -/
import Derived.Test.YtidoilcgdfhfiaaTm1
namespace Go.Proofs.Ytidoilcgdfhfiaa.Fn
open Go Go.Proofs Go.RowKit
set_option linter.unusedVariables false
set_option linter.unusedSimpArgs false
set_option maxRecDepth 100000 in
set_option maxHeartbeats 4000000 in
theorem nan_c (x : Int) (w : World) : Calls Try.prog 27 #[.int .i64 x] w fun e w' => e = .returned (.bool false) ∧ w' = w := by
  have HB : w = w := rfl
  refine Kw.enter Try.func27 rfl Try.ntmps27 rfl rfl ?_
  refine Kw.WC_seq (fun K1 hK1 => ?_)
  refine Kw.WC_region [some 2] rfl ?_
  refine Kw.WL_v rfl rfl rfl (Kw.R_assign rfl) ?_
  refine Kw.WL_nil ?_
  refine hK1 _ _ ?_; clear hK1 K1
  refine Kw.WC_seq (fun K2 hK2 => ?_)
  refine Kw.WC_region [some 3, some 4, some 5, some 2] rfl ?_
  refine Kw.WL_v rfl rfl rfl (Kw.R_move rfl) ?_
  refine Kw.WL_v rfl rfl rfl (Kw.R_move rfl) ?_
  refine Kw.WL_v rfl rfl rfl (Kw.R_nei (z := false) rfl rfl (decide_eq_true rfl)) ?_
  refine Kw.WL_v rfl rfl rfl (Kw.R_assign rfl) ?_
  refine Kw.WL_nil ?_
  refine hK2 _ _ ?_; clear hK2 K2
  refine Kw.WC_ret ?_
  exact Kw.post_ret1 rfl rfl ⟨rfl, HB⟩

def cmpI (x y : Int) : Int := if x < y then -1 else if y < x then 1 else 0
set_option maxRecDepth 100000 in
set_option maxHeartbeats 4000000 in
theorem cmp_c (x y : Int) (w : World) : Calls Try.prog 22 #[.int .i64 x, .int .i64 y] w fun e w' => e = .returned (.int .i64 (cmpI x y)) ∧ w' = w := by
  have HB : w = w := rfl
  refine Kw.enter Try.func22 rfl Try.ntmps22 rfl rfl ?_
  refine Kw.WC_seq (fun K1 hK1 => ?_)
  refine Kw.WC_region [some 4] rfl ?_
  refine Kw.WL_v rfl rfl rfl (Kw.R_assign rfl) ?_
  refine Kw.WL_nil ?_
  refine hK1 _ _ ?_; clear hK1 K1
  refine Kw.WC_seq (fun K2 hK2 => ?_)
  refine Kw.WC_region [some 7, some 8, some 5] rfl ?_
  refine Kw.WL_v rfl rfl rfl (Kw.R_move rfl) ?_
  refine Kw.WL_callc rfl rfl rfl rfl F.cl27 rfl (nan_c x _) ?_; rintro _ rfl
  refine Kw.WL_v rfl rfl rfl (Kw.R_assign rfl) ?_
  refine Kw.WL_nil ?_
  refine hK2 _ _ ?_; clear hK2 K2
  refine Kw.WC_seq (fun K3 hK3 => ?_)
  refine Kw.WC_region [some 9, some 10, some 6] rfl ?_
  refine Kw.WL_v rfl rfl rfl (Kw.R_move rfl) ?_
  refine Kw.WL_callc rfl rfl rfl rfl F.cl27 rfl (nan_c y _) ?_; rintro _ rfl
  refine Kw.WL_v rfl rfl rfl (Kw.R_assign rfl) ?_
  refine Kw.WL_nil ?_
  refine hK3 _ _ ?_; clear hK3 K3
  refine Kw.WC_seq (fun K4 hK4 => ?_)
  refine Kw.WC_seq (fun K5 hK5 => ?_)
  refine Kw.WC_region [some 11] rfl ?_
  refine Kw.WL_v rfl rfl rfl (Kw.R_move rfl) ?_
  refine Kw.WL_nil ?_
  refine hK5 _ _ ?_; clear hK5 K5
  refine Kw.WC_sub (l' := [(0, .int .i64 x), (1, .int .i64 y), (6, .bool false), (11, .bool false)]) (Kw.Sub.cons rfl (Kw.Sub.cons rfl (Kw.Sub.cons rfl (Kw.Sub.cons rfl Kw.Sub.nil)))) ?_
  refine Kw.WC_false rfl ?_
  refine Kw.WC_skip ?_
  refine hK4 _ _ ?_; clear hK4 K4
  refine Kw.WC_seq (fun K6 hK6 => ?_)
  refine Kw.WC_seq (fun K7 hK7 => ?_)
  refine Kw.WC_region [some 13] rfl ?_
  refine Kw.WL_v rfl rfl rfl (Kw.R_move rfl) ?_
  refine Kw.WL_nil ?_
  refine hK7 _ _ ?_; clear hK7 K7
  refine Kw.WC_false rfl ?_
  refine Kw.WC_skip ?_
  refine hK6 _ _ ?_; clear hK6 K6
  refine Kw.WC_seq (fun K8 hK8 => ?_)
  refine Kw.WC_seq (fun K9 hK9 => ?_)
  refine Kw.WC_region [some 14, some 15, some 16] rfl ?_
  refine Kw.WL_v rfl rfl rfl (Kw.R_move rfl) ?_
  refine Kw.WL_v rfl rfl rfl (Kw.R_move rfl) ?_
  by_cases c10 : (x : Int) < y
  ·
    refine Kw.WL_v rfl rfl rfl (Kw.R_lss (z := true) rfl rfl (decide_eq_true c10)) ?_
    refine Kw.WL_nil ?_
    refine hK9 _ _ ?_; clear hK9 K9
    refine Kw.WC_true rfl ?_
    refine Kw.WC_seq (fun K11 hK11 => ?_)
    refine Kw.WC_region [some 4] rfl ?_
    refine Kw.WL_v rfl rfl rfl (Kw.R_assign rfl) ?_
    refine Kw.WL_nil ?_
    refine hK11 _ _ ?_; clear hK11 K11
    refine Kw.WC_sub (l' := [(4, .int .i64 (-1))]) (Kw.Sub.cons rfl Kw.Sub.nil) ?_
    refine Kw.WC_ret ?_
    refine Kw.QR_then ?_; clear hK8 K8
    have hc : cmpI x y = (-1) := by unfold cmpI; split <;> (try split) <;> omega
    rw [hc]
    exact Kw.post_ret1 rfl rfl ⟨rfl, HB⟩
  ·
    refine Kw.WL_v rfl rfl rfl (Kw.R_lss (z := false) rfl rfl (decide_eq_false c10)) ?_
    refine Kw.WL_nil ?_
    refine hK9 _ _ ?_; clear hK9 K9
    refine Kw.WC_false rfl ?_
    refine Kw.WC_skip ?_
    refine hK8 _ _ ?_; clear hK8 K8
    refine Kw.WC_sub (l' := [(0, .int .i64 x), (1, .int .i64 y)]) (Kw.Sub.cons rfl (Kw.Sub.cons rfl Kw.Sub.nil)) ?_
    refine Kw.WC_seq (fun K12 hK12 => ?_)
    refine Kw.WC_seq (fun K13 hK13 => ?_)
    refine Kw.WC_region [some 17, some 18, some 19] rfl ?_
    refine Kw.WL_v rfl rfl rfl (Kw.R_move rfl) ?_
    refine Kw.WL_v rfl rfl rfl (Kw.R_move rfl) ?_
    by_cases c14 : (y : Int) < x
    ·
      refine Kw.WL_v rfl rfl rfl (Kw.R_gtr (z := true) rfl rfl (decide_eq_true c14)) ?_
      refine Kw.WL_nil ?_
      refine hK13 _ _ ?_; clear hK13 K13
      refine Kw.WC_true rfl ?_
      refine Kw.WC_seq (fun K15 hK15 => ?_)
      refine Kw.WC_region [some 4] rfl ?_
      refine Kw.WL_v rfl rfl rfl (Kw.R_assign rfl) ?_
      refine Kw.WL_nil ?_
      refine hK15 _ _ ?_; clear hK15 K15
      refine Kw.WC_ret ?_
      refine Kw.QR_then ?_; clear hK12 K12
      have hc : cmpI x y = 1 := by unfold cmpI; split <;> (try split) <;> omega
      rw [hc]
      exact Kw.post_ret1 rfl rfl ⟨rfl, HB⟩
    ·
      refine Kw.WL_v rfl rfl rfl (Kw.R_gtr (z := false) rfl rfl (decide_eq_false c14)) ?_
      refine Kw.WL_nil ?_
      refine hK13 _ _ ?_; clear hK13 K13
      refine Kw.WC_false rfl ?_
      refine Kw.WC_skip ?_
      refine hK12 _ _ ?_; clear hK12 K12
      refine Kw.WC_seq (fun K16 hK16 => ?_)
      refine Kw.WC_region [some 4] rfl ?_
      refine Kw.WL_v rfl rfl rfl (Kw.R_assign rfl) ?_
      refine Kw.WL_nil ?_
      refine hK16 _ _ ?_; clear hK16 K16
      refine Kw.WC_ret ?_
      have hc : cmpI x y = 0 := by unfold cmpI; split <;> (try split) <;> omega
      rw [hc]
      exact Kw.post_ret1 rfl rfl ⟨rfl, HB⟩

def or3 (a b c : Int) : Int := if a = 0 then (if b = 0 then c else b) else a
def vals (a b c : Int) (i : Nat) : Int := if i = 0 then a else if i = 1 then b else c
theorem vals_at (a b c : Int) (i : Nat) (h : i < 3) : (#[Value.int .i64 a, .int .i64 b, .int .i64 c] : Array Value)[i]? = some (.int .i64 (vals a b c i)) := by
  match i, h with
  | 0, _ => rfl
  | 1, _ => rfl
  | 2, _ => rfl
theorem or3_at (a b c : Int) (i : Nat) (h : i < 3) (h0 : ∀ j, j < i → vals a b c j = 0) (hv : vals a b c i ≠ 0) : or3 a b c = vals a b c i := by
  match i, h with
  | 0, _ => unfold vals at hv; unfold or3 vals; simp at *; intro h; exact absurd h hv
  | 1, _ => have := h0 0 (by omega); unfold vals at *; unfold or3; simp at *; simp [this]; intro h; exact absurd h hv
  | 2, _ => have := h0 0 (by omega); have h1 := h0 1 (by omega); unfold vals at *; unfold or3; simp at *; simp [this, h1]
theorem or3_zero (a b c : Int) (h0 : ∀ j, j < 3 → vals a b c j = 0) : or3 a b c = 0 := by
  have := h0 0 (by omega); have h1 := h0 1 (by omega); have h2 := h0 2 (by omega); unfold vals at *; unfold or3; simp at *; simp [this, h1, h2]
set_option maxRecDepth 100000 in
set_option maxHeartbeats 4000000 in
theorem or_c (a b c : Int) (g : Nat) (w : World) (A_g : Kw.At w g #[.int .i64 a, .int .i64 b, .int .i64 c] 3) : Calls Try.prog 21 #[.slice (some ⟨g, 0, none⟩) 3 3] w fun e w' => e = .returned (.int .i64 (or3 a b c)) ∧ w' = w := by
  have HB : w = w := rfl
  refine Kw.enter Try.func21 rfl Try.ntmps21 rfl rfl ?_
  refine Kw.WC_seq (fun K1 hK1 => ?_)
  refine Kw.WC_region [some 2] rfl ?_
  refine Kw.WL_v rfl rfl rfl (Kw.R_assign rfl) ?_
  refine Kw.WL_nil ?_
  refine hK1 _ _ ?_; clear hK1 K1
  refine Kw.WC_seq (fun K2 hK2 => ?_)
  refine Kw.WC_region [some 3] rfl ?_
  refine Kw.WL_v rfl rfl rfl (Kw.R_assign rfl) ?_
  refine Kw.WL_nil ?_
  refine hK2 _ _ ?_; clear hK2 K2
  refine Kw.WC_seq (fun K3 hK3 => ?_)
  refine Kw.WC_seq (fun K4 hK4 => ?_)
  refine Kw.WC_region [some 6, some 7, some 8] rfl ?_
  refine Kw.WL_v rfl rfl rfl (Kw.R_move rfl) ?_
  refine Kw.WL_v rfl rfl rfl (Kw.R_lenl Try.underlying65 rfl) ?_
  refine Kw.WL_v rfl rfl rfl (Kw.R_move rfl) ?_
  refine Kw.WL_nil ?_
  refine hK4 _ _ ?_; clear hK4 K4
  refine Kw.WC_block ?_
  refine Kw.WC_loop (ι := Nat) (fun (i : Nat) (ww : World) => (i ≤ 3 ∧ ∀ j, j < i → vals a b c j = 0) ∧ Kw.At ww g #[.int .i64 a, .int .i64 b, .int .i64 c] 3 ∧ ww = w) (fun (i : Nat) => [(3, .int .i64 0), (6, .slice (some ⟨g, 0, none⟩) 3 3), (7, .int .i64 (3 : Int)), (8, .int .i64 (i : Int))]) (fun (i : Nat) => 3 - i) 0 ⟨⟨Nat.zero_le _, fun j hj => absurd hj (Nat.not_lt_zero _)⟩, A_g, HB⟩ (Kw.Sub.cons rfl (Kw.Sub.cons rfl (Kw.Sub.cons rfl (Kw.Sub.cons rfl Kw.Sub.nil)))) ?_
  clear A_g
  clear HB
  rintro i w5 ⟨⟨hi, hz⟩, A_g, HB⟩
  refine Kw.WC_seq (fun K6 hK6 => ?_)
  refine Kw.WC_region [some 9] rfl ?_
  by_cases c7 : ((i : Int) : Int) < (3 : Int)
  ·
    refine Kw.WL_v rfl rfl rfl (Kw.R_lss (z := true) rfl rfl (decide_eq_true c7)) ?_
    refine Kw.WL_nil ?_
    refine hK6 _ _ ?_; clear hK6 K6
    refine Kw.WC_seq (fun K8 hK8 => ?_)
    refine Kw.WC_true rfl ?_
    refine Kw.WC_skip ?_
    refine hK8 _ _ ?_; clear hK8 K8
    refine Kw.WC_seq (fun K9 hK9 => ?_)
    refine Kw.WC_block ?_
    refine Kw.WC_seq (fun K10 hK10 => ?_)
    refine Kw.WC_region [some 10, some 11, some 5] rfl ?_
    refine Kw.WL_v rfl rfl rfl (Kw.R_indexAddrS (i := i) (o' := i) rfl rfl Try.underlying65 F.sz3 (by omega) (by omega)) ?_
    refine Kw.WL_v rfl rfl rfl (Kw.R_load1 (v := .int .i64 (vals a b c i)) rfl Try.underlying3 rfl A_g (vals_at a b c i (by omega))) ?_
    refine Kw.WL_v rfl rfl rfl (Kw.R_assign rfl) ?_
    refine Kw.WL_nil ?_
    refine hK10 _ _ ?_; clear hK10 K10
    refine Kw.WC_seq (fun K11 hK11 => ?_)
    refine Kw.WC_region [some 12, some 13, some 14] rfl ?_
    refine Kw.WL_v rfl rfl rfl (Kw.R_move rfl) ?_
    refine Kw.WL_v rfl rfl rfl (Kw.R_move rfl) ?_
    by_cases c12 : vals a b c i = 0
    ·
      refine Kw.WL_v rfl rfl rfl (Kw.R_nei (z := false) rfl rfl (decide_eq_true c12)) ?_
      have hzi : vals a b c i = 0 := by assumption
      refine Kw.WL_nil ?_
      refine hK11 _ _ ?_; clear hK11 K11
      refine Kw.WC_false rfl ?_
      refine Kw.WC_skip ?_
      refine Kw.QN_block ?_
      refine hK9 _ _ ?_; clear hK9 K9
      refine Kw.WC_sub (l' := [(3, .int .i64 0), (6, .slice (some ⟨g, 0, none⟩) 3 3), (7, .int .i64 (3 : Int)), (8, .int .i64 (i : Int))]) (Kw.Sub.cons rfl (Kw.Sub.cons rfl (Kw.Sub.cons rfl (Kw.Sub.cons rfl Kw.Sub.nil)))) ?_
      refine Kw.WC_region [some 16, some 8] rfl ?_
      refine Kw.WL_v rfl rfl rfl (Kw.R_add (c := ((i + 1 : Nat) : Int)) rfl rfl (by rw [Kw.wrap_i64 (by omega)]; omega)) ?_
      refine Kw.WL_v rfl rfl rfl (Kw.R_move rfl) ?_
      refine Kw.WL_nil ?_
      refine Kw.QN_round (i + 1) ⟨⟨by omega, fun j hj => (Nat.lt_or_ge j i).elim (fun h => hz j h) (fun h => by rw [show j = i by omega]; assumption)⟩, A_g, HB⟩ (by omega) (Kw.Sub.cons rfl (Kw.Sub.cons rfl (Kw.Sub.cons rfl (Kw.Sub.cons rfl Kw.Sub.nil))))
    ·
      refine Kw.WL_v rfl rfl rfl (Kw.R_nei (z := true) rfl rfl (decide_eq_false c12)) ?_
      refine Kw.WL_nil ?_
      refine hK11 _ _ ?_; clear hK11 K11
      refine Kw.WC_true rfl ?_
      refine Kw.WC_seq (fun K13 hK13 => ?_)
      refine Kw.WC_region [some 15, some 2] rfl ?_
      refine Kw.WL_v rfl rfl rfl (Kw.R_move rfl) ?_
      refine Kw.WL_v rfl rfl rfl (Kw.R_assign rfl) ?_
      refine Kw.WL_nil ?_
      refine hK13 _ _ ?_; clear hK13 K13
      refine Kw.WC_sub (l' := [(2, .int .i64 (vals a b c i))]) (Kw.Sub.cons rfl Kw.Sub.nil) ?_
      refine Kw.WC_ret ?_
      refine Kw.QR_block ?_
      refine Kw.QR_then ?_; clear hK9 K9
      refine Kw.QR_then ?_
      refine Kw.QR_block ?_
      refine Kw.QR_then ?_; clear hK3 K3
      rw [or3_at a b c i (by omega) hz (by assumption)]
      exact Kw.post_ret1 rfl rfl ⟨rfl, HB⟩
  ·
    refine Kw.WL_v rfl rfl rfl (Kw.R_lss (z := false) rfl rfl (decide_eq_false c7)) ?_
    refine Kw.WL_nil ?_
    refine hK6 _ _ ?_; clear hK6 K6
    refine Kw.WC_seq (fun K14 hK14 => ?_)
    refine Kw.WC_false rfl ?_
    refine Kw.WC_exit ?_
    refine Kw.QE_then ?_; clear hK14 K14
    refine Kw.QE_then ?_
    refine Kw.QE_here ?_
    refine hK3 _ _ ?_; clear hK3 K3
    refine Kw.WC_seq (fun K15 hK15 => ?_)
    refine Kw.WC_region [some 17, some 2] rfl ?_
    refine Kw.WL_v rfl rfl rfl (Kw.R_move rfl) ?_
    refine Kw.WL_v rfl rfl rfl (Kw.R_assign rfl) ?_
    refine Kw.WL_nil ?_
    refine hK15 _ _ ?_; clear hK15 K15
    refine Kw.WC_sub (l' := [(2, .int .i64 0)]) (Kw.Sub.cons rfl Kw.Sub.nil) ?_
    refine Kw.WC_ret ?_
    rw [or3_zero a b c (fun j hj => hz j (by omega))]
    exact Kw.post_ret1 rfl rfl ⟨rfl, HB⟩

def look (T : List ((Int × Int) × Int)) (k : Int × Int) : Int := (Kw.tget T k).getD 0
theorem look_eq (T : List ((Int × Int) × Int)) (k : Int × Int) : (match Kw.tget T k with | some u => atV u | none => .int .i64 0) = .int .i64 (look T k) := by
  unfold look atV; cases Kw.tget T k <;> rfl
def keyCmp (T : List ((Int × Int) × Int)) (a b : Int × Int) : Int := or3 (cmpI (look T a) (look T b)) (cmpI a.1 b.1) (cmpI a.2 b.2)
set_option maxRecDepth 100000 in
set_option maxHeartbeats 4000000 in
theorem clo_c (a b : Int × Int) (ha : okK a) (hb : okK b) (bx tb mb : Nat) (T : List ((Int × Int) × Int)) (w : World) (A_bx : Kw.At w bx #[.pointer (some ⟨tb, 0, none⟩)] 25) (A_tb : Kw.At w tb #[.map (some mb)] 52) (A_mb : TM w mb T) : Calls Try.prog 20 #[keyV a, keyV b, .pointer (some ⟨bx, 0, none⟩)] w fun e w' => e = .returned (.int .i64 (keyCmp T a b)) ∧ Kw.Gro w w' := by
  have HB : Kw.Gro w w := Kw.Gro.refl w
  refine Kw.enter Try.func20 rfl Try.ntmps20 rfl rfl ?_
  refine Kw.WC_seq (fun K1 hK1 => ?_)
  refine Kw.WC_region [some 3, some 4, some 5] rfl ?_
  refine Kw.WL_box rfl rfl rfl ?_; intro ga w2 N_ga
  have L_bx_ga := N_ga.ne A_bx; replace A_bx := N_ga.keep A_bx
  have L_mb_ga : mb < ga := (by rw [N_ga.num]; exact A_mb.lt); replace A_mb := A_mb.new N_ga
  have L_tb_ga := N_ga.ne A_tb; replace A_tb := N_ga.keep A_tb
  have A_ga : Kw.At w2 ga #[.int .i64 a.1, .int .i64 a.2] 29 := N_ga.at_
  replace HB := HB.new N_ga; clear N_ga
  refine Kw.WL_box rfl rfl rfl ?_; intro gb w3 N_gb
  have L_bx_gb := N_gb.ne A_bx; replace A_bx := N_gb.keep A_bx
  have L_mb_gb : mb < gb := (by rw [N_gb.num]; exact A_mb.lt); replace A_mb := A_mb.new N_gb
  have L_tb_gb := N_gb.ne A_tb; replace A_tb := N_gb.keep A_tb
  have L_ga_gb := N_gb.ne A_ga; replace A_ga := N_gb.keep A_ga
  have A_gb : Kw.At w3 gb #[.int .i64 b.1, .int .i64 b.2] 29 := N_gb.at_
  replace HB := HB.new N_gb; clear N_gb
  refine Kw.WL_v rfl rfl rfl (Kw.R_assign rfl) ?_
  refine Kw.WL_nil ?_
  refine hK1 _ _ ?_; clear hK1 K1
  refine Kw.WC_seq (fun K4 hK4 => ?_)
  refine Kw.WC_still 23 [some 6, some 7, some 8, some 9, some 10, some 11, some 12, some 13, some 14, some 15, some 16, some 17, some 18, some 19, some 20, some 21, some 22, some 23, some 24, some 25, some 26, some 27, some 28, some 29, some 30, some 5] rfl (by kernel_rfl) (by kernel_rfl) ?_
  simp only [List.take_succ_cons, List.take_zero, List.drop_succ_cons, List.drop_zero]
  obtain ⟨w5, hww5⟩ : ∃ x : World, x = Go.World.drew w3 := ⟨_, rfl⟩
  rw [← hww5]
  replace A_bx : Kw.At w5 bx #[.pointer (some ⟨tb, 0, none⟩)] 25 := by rw [hww5]; exact A_bx
  replace A_mb : TM w5 mb T := by rw [hww5]; exact A_mb
  replace A_tb : Kw.At w5 tb #[.map (some mb)] 52 := by rw [hww5]; exact A_tb
  replace A_ga : Kw.At w5 ga #[.int .i64 a.1, .int .i64 a.2] 29 := by rw [hww5]; exact A_ga
  replace A_gb : Kw.At w5 gb #[.int .i64 b.1, .int .i64 b.2] 29 := by rw [hww5]; exact A_gb
  replace HB : Kw.Gro w w5 := by rw [hww5]; exact HB.drew
  clear hww5
  refine Kw.WS_v rfl rfl rfl (Kw.R_load1 rfl Try.underlying25 rfl A_bx rfl) ?_
  refine Kw.WS_v rfl rfl rfl (Kw.R_nilok rfl) ?_
  refine Kw.WS_v rfl rfl rfl (Kw.R_fieldAddr (o' := 0) (k := 0) rfl Try.underlying52 rfl F.sz50 rfl) ?_
  refine Kw.WS_v rfl rfl rfl (Kw.R_load1 rfl Try.underlying50 rfl A_tb rfl) ?_
  refine Kw.WS_v rfl rfl rfl (Kw.R_loadW rfl Try.underlying29 rfl (by exact F.sz29) A_ga) ?_
  refine Kw.WS_v rfl rfl rfl (Kw.R_lookup (v := .int .i64 (look T a)) K29 rfl rfl Try.underlying50 F.ze3 A_mb (a := a) ha (by unfold look; cases Kw.tget T a <;> rfl)) ?_
  refine Kw.WS_v rfl rfl rfl (Kw.R_load1 rfl Try.underlying25 rfl A_bx rfl) ?_
  refine Kw.WS_v rfl rfl rfl (Kw.R_nilok rfl) ?_
  refine Kw.WS_v rfl rfl rfl (Kw.R_fieldAddr (o' := 0) (k := 0) rfl Try.underlying52 rfl F.sz50 rfl) ?_
  refine Kw.WS_v rfl rfl rfl (Kw.R_load1 rfl Try.underlying50 rfl A_tb rfl) ?_
  refine Kw.WS_v rfl rfl rfl (Kw.R_loadW rfl Try.underlying29 rfl (by exact F.sz29) A_gb) ?_
  refine Kw.WS_v rfl rfl rfl (Kw.R_lookup (v := .int .i64 (look T b)) K29 rfl rfl Try.underlying50 F.ze3 A_mb (a := b) hb (by unfold look; cases Kw.tget T b <;> rfl)) ?_
  refine Kw.WS_call rfl rfl rfl rfl F.cl22 rfl (cmp_c (look T a) (look T b) _) ?_
  refine Kw.WS_v rfl rfl rfl (Kw.R_indexAddrA (i := 0) (o' := 0) rfl rfl Try.underlying29 F.sz3 (by decide) (rfl)) ?_
  refine Kw.WS_v rfl rfl rfl (Kw.R_load1 rfl Try.underlying3 rfl A_ga rfl) ?_
  refine Kw.WS_v rfl rfl rfl (Kw.R_indexAddrA (i := 0) (o' := 0) rfl rfl Try.underlying29 F.sz3 (by decide) (rfl)) ?_
  refine Kw.WS_v rfl rfl rfl (Kw.R_load1 rfl Try.underlying3 rfl A_gb rfl) ?_
  refine Kw.WS_call rfl rfl rfl rfl F.cl22 rfl (cmp_c a.1 b.1 _) ?_
  refine Kw.WS_v rfl rfl rfl (Kw.R_indexAddrA (i := 1) (o' := 1) rfl rfl Try.underlying29 F.sz3 (by decide) (rfl)) ?_
  refine Kw.WS_v rfl rfl rfl (Kw.R_load1 rfl Try.underlying3 rfl A_ga rfl) ?_
  refine Kw.WS_v rfl rfl rfl (Kw.R_indexAddrA (i := 1) (o' := 1) rfl rfl Try.underlying29 F.sz3 (by decide) (rfl)) ?_
  refine Kw.WS_v rfl rfl rfl (Kw.R_load1 rfl Try.underlying3 rfl A_gb rfl) ?_
  refine Kw.WS_call rfl rfl rfl rfl F.cl22 rfl (cmp_c a.2 b.2 _) ?_
  refine Kw.WS_nil ?_
  obtain ⟨gr, w6, N_gr⟩ : ∃ b_ w2_, Kw.Newb w5 b_ #[.int .i64 (cmpI (look T a) (look T b)), .int .i64 (cmpI a.1 b.1), .int .i64 (cmpI a.2 b.2)] 3 w2_ := ⟨_, _, rfl, rfl⟩
  refine Kw.WL_v rfl rfl rfl (Kw.R_buildSlice rfl (fun w => by kernel_rfl) N_gr) ?_
  have L_bx_gr := N_gr.ne A_bx; replace A_bx := N_gr.keep A_bx
  have L_mb_gr : mb < gr := (by rw [N_gr.num]; exact A_mb.lt); replace A_mb := A_mb.new N_gr
  have L_tb_gr := N_gr.ne A_tb; replace A_tb := N_gr.keep A_tb
  have L_ga_gr := N_gr.ne A_ga; replace A_ga := N_gr.keep A_ga
  have L_gb_gr := N_gr.ne A_gb; replace A_gb := N_gr.keep A_gb
  have A_gr : Kw.At w6 gr #[.int .i64 (cmpI (look T a) (look T b)), .int .i64 (cmpI a.1 b.1), .int .i64 (cmpI a.2 b.2)] 3 := N_gr.at_
  replace HB := HB.new N_gr; clear N_gr
  refine Kw.WL_callc rfl rfl rfl rfl F.cl21 rfl (or_c _ _ _ gr _ A_gr) ?_; rintro _ rfl
  refine Kw.WL_v rfl rfl rfl (Kw.R_assign rfl) ?_
  refine Kw.WL_nil ?_
  refine hK4 _ _ ?_; clear hK4 K4
  refine Kw.WC_sub (l' := [(5, .int .i64 (keyCmp T a b))]) (Kw.Sub.cons rfl Kw.Sub.nil) ?_
  refine Kw.WC_ret ?_
  exact Kw.post_ret1 rfl rfl ⟨rfl, HB⟩
end Go.Proofs.Ytidoilcgdfhfiaa.Fn
