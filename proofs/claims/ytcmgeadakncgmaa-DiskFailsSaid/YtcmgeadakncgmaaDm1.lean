/- The methods that only look; and all of them of no disk. -/
import Derived.Test.YtcmgeadakncgmaaDa
import Derived.Test.YtcmgeadakncgmaaKw10
namespace Go.Proofs.Ytcmgeadakncgmaa.Fn
open Go Go.Proofs Go.RowKit
set_option linter.unusedVariables false
set_option linter.unusedSimpArgs false
set_option maxRecDepth 100000 in
set_option maxHeartbeats 4000000 in
theorem none_nil (w : World)  : Calls Try.prog 29 #[.pointer none] w fun e w' => e = .returned (.bool true) ∧ w' = w := by
  have HB : w = w := rfl
  refine Kw.enter Try.func29 rfl Try.ntmps29 rfl rfl ?_
  refine Kw.WC_seq (fun K1 hK1 => ?_)
  refine Kw.WC_region [some 2] rfl ?_
  refine Kw.WL_v rfl rfl rfl (Kw.R_assign rfl) ?_
  refine Kw.WL_nil ?_
  refine hK1 _ _ ?_; clear hK1 K1
  refine Kw.WC_seq (fun K2 hK2 => ?_)
  refine Kw.WC_region [some 3, some 4, some 5, some 6, some 7, some 8, some 9, some 10, some 11, some 2] rfl ?_
  refine Kw.WL_v rfl rfl rfl (Kw.R_move rfl) ?_
  refine Kw.WL_v rfl rfl rfl (Kw.R_eqpn rfl rfl Try.underlying24 rfl) ?_
  refine Kw.WL_v rfl rfl rfl (Kw.R_move rfl) ?_
  refine Kw.WL_off rfl rfl rfl ?_
  refine Kw.WL_off rfl rfl rfl ?_
  refine Kw.WL_off rfl rfl rfl ?_
  refine Kw.WL_off rfl rfl rfl ?_
  refine Kw.WL_off rfl rfl rfl ?_
  refine Kw.WL_v rfl rfl rfl (Kw.R_pickt rfl rfl) ?_
  refine Kw.WL_v rfl rfl rfl (Kw.R_assign rfl) ?_
  refine Kw.WL_nil ?_
  refine hK2 _ _ ?_; clear hK2 K2
  refine Kw.WC_sub (l' := [(2, .bool true)]) (Kw.Sub.cons rfl Kw.Sub.nil) ?_
  refine Kw.WC_ret ?_
  exact Kw.post_ret1 rfl rfl ⟨rfl, rfl⟩
set_option maxRecDepth 100000 in
set_option maxHeartbeats 4000000 in
theorem none_zero (tb : Nat) (w : World) (A_tb : Kw.At w tb #[.map none, .slice none 0 0, .int .i64 0, .bool false, .int .i64 0, .bool false, .int .i64 0, .int .i64 0] 52) : Calls Try.prog 29 #[.pointer (some ⟨tb, 0, none⟩)] w fun e w' => e = .returned (.bool true) ∧ w' = w := by
  have HB : w = w := rfl
  refine Kw.enter Try.func29 rfl Try.ntmps29 rfl rfl ?_
  refine Kw.WC_seq (fun K1 hK1 => ?_)
  refine Kw.WC_region [some 2] rfl ?_
  refine Kw.WL_v rfl rfl rfl (Kw.R_assign rfl) ?_
  refine Kw.WL_nil ?_
  refine hK1 _ _ ?_; clear hK1 K1
  refine Kw.WC_seq (fun K2 hK2 => ?_)
  refine Kw.WC_region [some 3, some 4, some 5, some 6, some 7, some 8, some 9, some 10, some 11, some 2] rfl ?_
  refine Kw.WL_v rfl rfl rfl (Kw.R_move rfl) ?_
  refine Kw.WL_v rfl rfl rfl (Kw.R_eqpn rfl rfl Try.underlying24 rfl) ?_
  refine Kw.WL_v rfl rfl rfl (Kw.R_move rfl) ?_
  refine Kw.WL_v rfl rfl rfl (Kw.R_move rfl) ?_
  refine Kw.WL_v rfl rfl rfl (Kw.R_nilok rfl) ?_
  refine Kw.WL_v rfl rfl rfl (Kw.R_fieldAddr (o' := 0) (k := 0) rfl Try.underlying52 rfl F.sz49 rfl) ?_
  refine Kw.WL_v rfl rfl rfl (Kw.R_load1 (v := .map none) rfl Try.underlying49 rfl A_tb rfl) ?_
  refine Kw.WL_v rfl rfl rfl (Kw.R_eqmn rfl rfl Try.underlying49 rfl) ?_
  refine Kw.WL_v rfl rfl rfl (Kw.R_pickf rfl rfl) ?_
  refine Kw.WL_v rfl rfl rfl (Kw.R_assign rfl) ?_
  refine Kw.WL_nil ?_
  refine hK2 _ _ ?_; clear hK2 K2
  refine Kw.WC_sub (l' := [(2, .bool true)]) (Kw.Sub.cons rfl Kw.Sub.nil) ?_
  refine Kw.WC_ret ?_
  exact Kw.post_ret1 rfl rfl ⟨rfl, rfl⟩
set_option maxRecDepth 100000 in
set_option maxHeartbeats 4000000 in
theorem none_no (tb mb : Nat) (lv : Value) (cap : Int) (down : Bool) (starts : Int) (fails : Bool) (left keep : Int) (w : World) (A_tb : Kw.At w tb #[.map (some mb), lv, .int .i64 cap, .bool down, .int .i64 starts, .bool fails, .int .i64 left, .int .i64 keep] 52) : Calls Try.prog 29 #[.pointer (some ⟨tb, 0, none⟩)] w fun e w' => e = .returned (.bool false) ∧ w' = w := by
  have HB : w = w := rfl
  refine Kw.enter Try.func29 rfl Try.ntmps29 rfl rfl ?_
  refine Kw.WC_seq (fun K1 hK1 => ?_)
  refine Kw.WC_region [some 2] rfl ?_
  refine Kw.WL_v rfl rfl rfl (Kw.R_assign rfl) ?_
  refine Kw.WL_nil ?_
  refine hK1 _ _ ?_; clear hK1 K1
  refine Kw.WC_seq (fun K2 hK2 => ?_)
  refine Kw.WC_region [some 3, some 4, some 5, some 6, some 7, some 8, some 9, some 10, some 11, some 2] rfl ?_
  refine Kw.WL_v rfl rfl rfl (Kw.R_move rfl) ?_
  refine Kw.WL_v rfl rfl rfl (Kw.R_eqpn rfl rfl Try.underlying24 rfl) ?_
  refine Kw.WL_v rfl rfl rfl (Kw.R_move rfl) ?_
  refine Kw.WL_v rfl rfl rfl (Kw.R_move rfl) ?_
  refine Kw.WL_v rfl rfl rfl (Kw.R_nilok rfl) ?_
  refine Kw.WL_v rfl rfl rfl (Kw.R_fieldAddr (o' := 0) (k := 0) rfl Try.underlying52 rfl F.sz49 rfl) ?_
  refine Kw.WL_v rfl rfl rfl (Kw.R_load1 (v := .map (some mb)) rfl Try.underlying49 rfl A_tb rfl) ?_
  refine Kw.WL_v rfl rfl rfl (Kw.R_eqmn rfl rfl Try.underlying49 rfl) ?_
  refine Kw.WL_v rfl rfl rfl (Kw.R_pickf rfl rfl) ?_
  refine Kw.WL_v rfl rfl rfl (Kw.R_assign rfl) ?_
  refine Kw.WL_nil ?_
  refine hK2 _ _ ?_; clear hK2 K2
  refine Kw.WC_sub (l' := [(2, .bool false)]) (Kw.Sub.cons rfl Kw.Sub.nil) ?_
  refine Kw.WC_ret ?_
  exact Kw.post_ret1 rfl rfl ⟨rfl, rfl⟩

set_option maxRecDepth 100000 in
set_option maxHeartbeats 4000000 in
theorem ready_nil (w : World)  : Calls Try.prog 28 #[.pointer none] w fun e w' => e = .returned (.int .i64 1) ∧ w' = w := by
  have HB : w = w := rfl
  refine Kw.enter Try.func28 rfl Try.ntmps28 rfl rfl ?_
  refine Kw.WC_seq (fun K1 hK1 => ?_)
  refine Kw.WC_region [some 2] rfl ?_
  refine Kw.WL_v rfl rfl rfl (Kw.R_assign rfl) ?_
  refine Kw.WL_nil ?_
  refine hK1 _ _ ?_; clear hK1 K1
  refine Kw.WC_seq (fun K2 hK2 => ?_)
  refine Kw.WC_block ?_
  refine Kw.WC_seq (fun K3 hK3 => ?_)
  refine Kw.WC_region [some 4, some 5, some 3] rfl ?_
  refine Kw.WL_v rfl rfl rfl (Kw.R_move rfl) ?_
  refine Kw.WL_callc rfl rfl rfl rfl F.cl29 rfl (none_nil _) ?_; intro ww hww; rw [hww]; clear hww ww
  refine Kw.WL_v rfl rfl rfl (Kw.R_assign rfl) ?_
  refine Kw.WL_nil ?_
  refine hK3 _ _ ?_; clear hK3 K3
  refine Kw.WC_true rfl ?_
  refine Kw.WC_seq (fun K4 hK4 => ?_)
  refine Kw.WC_region [some 2] rfl ?_
  refine Kw.WL_v rfl rfl rfl (Kw.R_assign rfl) ?_
  refine Kw.WL_nil ?_
  refine hK4 _ _ ?_; clear hK4 K4
  refine Kw.WC_ret ?_
  refine Kw.QR_block ?_
  refine Kw.QR_then ?_; clear hK2 K2
  exact Kw.post_ret1 rfl rfl ⟨rfl, rfl⟩
set_option maxRecDepth 100000 in
set_option maxHeartbeats 4000000 in
theorem ready_zero (tb : Nat) (w : World) (A_tb : Kw.At w tb #[.map none, .slice none 0 0, .int .i64 0, .bool false, .int .i64 0, .bool false, .int .i64 0, .int .i64 0] 52) : Calls Try.prog 28 #[.pointer (some ⟨tb, 0, none⟩)] w fun e w' => e = .returned (.int .i64 1) ∧ w' = w := by
  have HB : w = w := rfl
  refine Kw.enter Try.func28 rfl Try.ntmps28 rfl rfl ?_
  refine Kw.WC_seq (fun K1 hK1 => ?_)
  refine Kw.WC_region [some 2] rfl ?_
  refine Kw.WL_v rfl rfl rfl (Kw.R_assign rfl) ?_
  refine Kw.WL_nil ?_
  refine hK1 _ _ ?_; clear hK1 K1
  refine Kw.WC_seq (fun K2 hK2 => ?_)
  refine Kw.WC_block ?_
  refine Kw.WC_seq (fun K3 hK3 => ?_)
  refine Kw.WC_region [some 4, some 5, some 3] rfl ?_
  refine Kw.WL_v rfl rfl rfl (Kw.R_move rfl) ?_
  refine Kw.WL_callc rfl rfl rfl rfl F.cl29 rfl (none_zero tb _ A_tb) ?_; intro ww hww; rw [hww]; clear hww ww
  refine Kw.WL_v rfl rfl rfl (Kw.R_assign rfl) ?_
  refine Kw.WL_nil ?_
  refine hK3 _ _ ?_; clear hK3 K3
  refine Kw.WC_true rfl ?_
  refine Kw.WC_seq (fun K4 hK4 => ?_)
  refine Kw.WC_region [some 2] rfl ?_
  refine Kw.WL_v rfl rfl rfl (Kw.R_assign rfl) ?_
  refine Kw.WL_nil ?_
  refine hK4 _ _ ?_; clear hK4 K4
  refine Kw.WC_ret ?_
  refine Kw.QR_block ?_
  refine Kw.QR_then ?_; clear hK2 K2
  exact Kw.post_ret1 rfl rfl ⟨rfl, rfl⟩
set_option maxRecDepth 100000 in
set_option maxHeartbeats 4000000 in
theorem ready_up (tb mb : Nat) (lv : Value) (cap : Int) (starts : Int) (fails : Bool) (left keep : Int) (w : World) (A_tb : Kw.At w tb #[.map (some mb), lv, .int .i64 cap, .bool false, .int .i64 starts, .bool fails, .int .i64 left, .int .i64 keep] 52) : Calls Try.prog 28 #[.pointer (some ⟨tb, 0, none⟩)] w fun e w' => e = .returned (.int .i64 0) ∧ w' = w := by
  have HB : w = w := rfl
  refine Kw.enter Try.func28 rfl Try.ntmps28 rfl rfl ?_
  refine Kw.WC_seq (fun K1 hK1 => ?_)
  refine Kw.WC_region [some 2] rfl ?_
  refine Kw.WL_v rfl rfl rfl (Kw.R_assign rfl) ?_
  refine Kw.WL_nil ?_
  refine hK1 _ _ ?_; clear hK1 K1
  refine Kw.WC_seq (fun K2 hK2 => ?_)
  refine Kw.WC_block ?_
  refine Kw.WC_seq (fun K3 hK3 => ?_)
  refine Kw.WC_region [some 4, some 5, some 3] rfl ?_
  refine Kw.WL_v rfl rfl rfl (Kw.R_move rfl) ?_
  refine Kw.WL_callc rfl rfl rfl rfl F.cl29 rfl (none_no tb mb lv cap false starts fails left keep _ A_tb) ?_; intro ww hww; rw [hww]; clear hww ww
  refine Kw.WL_v rfl rfl rfl (Kw.R_assign rfl) ?_
  refine Kw.WL_nil ?_
  refine hK3 _ _ ?_; clear hK3 K3
  refine Kw.WC_false rfl ?_
  refine Kw.WC_seq (fun K4 hK4 => ?_)
  refine Kw.WC_region [some 7, some 8, some 9, some 10, some 6] rfl ?_
  refine Kw.WL_v rfl rfl rfl (Kw.R_move rfl) ?_
  refine Kw.WL_v rfl rfl rfl (Kw.R_nilok rfl) ?_
  refine Kw.WL_v rfl rfl rfl (Kw.R_fieldAddr (o' := 3) (k := 0) rfl Try.underlying52 rfl F.sz4 rfl) ?_
  refine Kw.WL_v rfl rfl rfl (Kw.R_load1 (v := .bool false) rfl Try.underlying4 rfl A_tb rfl) ?_
  refine Kw.WL_v rfl rfl rfl (Kw.R_assign rfl) ?_
  refine Kw.WL_nil ?_
  refine hK4 _ _ ?_; clear hK4 K4
  refine Kw.WC_sub (l' := [(6, .bool false)]) (Kw.Sub.cons rfl Kw.Sub.nil) ?_
  refine Kw.WC_false rfl ?_
  refine Kw.WC_skip ?_
  refine Kw.QN_block ?_
  refine hK2 _ _ ?_; clear hK2 K2
  refine Kw.WC_seq (fun K5 hK5 => ?_)
  refine Kw.WC_region [some 2] rfl ?_
  refine Kw.WL_v rfl rfl rfl (Kw.R_assign rfl) ?_
  refine Kw.WL_nil ?_
  refine hK5 _ _ ?_; clear hK5 K5
  refine Kw.WC_ret ?_
  exact Kw.post_ret1 rfl rfl ⟨rfl, rfl⟩
set_option maxRecDepth 100000 in
set_option maxHeartbeats 4000000 in
theorem ready_down (tb mb : Nat) (lv : Value) (cap : Int) (starts : Int) (fails : Bool) (left keep : Int) (w : World) (A_tb : Kw.At w tb #[.map (some mb), lv, .int .i64 cap, .bool true, .int .i64 starts, .bool fails, .int .i64 left, .int .i64 keep] 52) : Calls Try.prog 28 #[.pointer (some ⟨tb, 0, none⟩)] w fun e w' => e = .returned (.int .i64 61) ∧ w' = w := by
  have HB : w = w := rfl
  refine Kw.enter Try.func28 rfl Try.ntmps28 rfl rfl ?_
  refine Kw.WC_seq (fun K1 hK1 => ?_)
  refine Kw.WC_region [some 2] rfl ?_
  refine Kw.WL_v rfl rfl rfl (Kw.R_assign rfl) ?_
  refine Kw.WL_nil ?_
  refine hK1 _ _ ?_; clear hK1 K1
  refine Kw.WC_seq (fun K2 hK2 => ?_)
  refine Kw.WC_block ?_
  refine Kw.WC_seq (fun K3 hK3 => ?_)
  refine Kw.WC_region [some 4, some 5, some 3] rfl ?_
  refine Kw.WL_v rfl rfl rfl (Kw.R_move rfl) ?_
  refine Kw.WL_callc rfl rfl rfl rfl F.cl29 rfl (none_no tb mb lv cap true starts fails left keep _ A_tb) ?_; intro ww hww; rw [hww]; clear hww ww
  refine Kw.WL_v rfl rfl rfl (Kw.R_assign rfl) ?_
  refine Kw.WL_nil ?_
  refine hK3 _ _ ?_; clear hK3 K3
  refine Kw.WC_false rfl ?_
  refine Kw.WC_seq (fun K4 hK4 => ?_)
  refine Kw.WC_region [some 7, some 8, some 9, some 10, some 6] rfl ?_
  refine Kw.WL_v rfl rfl rfl (Kw.R_move rfl) ?_
  refine Kw.WL_v rfl rfl rfl (Kw.R_nilok rfl) ?_
  refine Kw.WL_v rfl rfl rfl (Kw.R_fieldAddr (o' := 3) (k := 0) rfl Try.underlying52 rfl F.sz4 rfl) ?_
  refine Kw.WL_v rfl rfl rfl (Kw.R_load1 (v := .bool true) rfl Try.underlying4 rfl A_tb rfl) ?_
  refine Kw.WL_v rfl rfl rfl (Kw.R_assign rfl) ?_
  refine Kw.WL_nil ?_
  refine hK4 _ _ ?_; clear hK4 K4
  refine Kw.WC_sub (l' := [(6, .bool true)]) (Kw.Sub.cons rfl Kw.Sub.nil) ?_
  refine Kw.WC_true rfl ?_
  refine Kw.WC_seq (fun K5 hK5 => ?_)
  refine Kw.WC_region [some 2] rfl ?_
  refine Kw.WL_v rfl rfl rfl (Kw.R_assign rfl) ?_
  refine Kw.WL_nil ?_
  refine hK5 _ _ ?_; clear hK5 K5
  refine Kw.WC_ret ?_
  refine Kw.QR_block ?_
  refine Kw.QR_then ?_; clear hK2 K2
  exact Kw.post_ret1 rfl rfl ⟨rfl, rfl⟩

set_option maxRecDepth 100000 in
set_option maxHeartbeats 4000000 in
theorem has_nil (w : World) (n : Int) : Calls Try.prog 25 #[.pointer none, .int .i64 n] w fun e w' => e = .returned (.int .i64 1) ∧ w' = w := by
  have HB : w = w := rfl
  refine Kw.enter Try.func25 rfl Try.ntmps25 rfl rfl ?_
  refine Kw.WC_seq (fun K1 hK1 => ?_)
  refine Kw.WC_region [some 4] rfl ?_
  refine Kw.WL_v rfl rfl rfl (Kw.R_assign rfl) ?_
  refine Kw.WL_nil ?_
  refine hK1 _ _ ?_; clear hK1 K1
  refine Kw.WC_seq (fun K2 hK2 => ?_)
  refine Kw.WC_region [some 8, some 9, some 5] rfl ?_
  refine Kw.WL_v rfl rfl rfl (Kw.R_move rfl) ?_
  refine Kw.WL_callc rfl rfl rfl rfl F.cl28 rfl (ready_nil _) ?_; intro ww hww; rw [hww]; clear hww ww
  refine Kw.WL_v rfl rfl rfl (Kw.R_assign rfl) ?_
  refine Kw.WL_nil ?_
  refine hK2 _ _ ?_; clear hK2 K2
  refine Kw.WC_seq (fun K3 hK3 => ?_)
  refine Kw.WC_seq (fun K4 hK4 => ?_)
  refine Kw.WC_region [some 10, some 11] rfl ?_
  refine Kw.WL_v rfl rfl rfl (Kw.R_move rfl) ?_
  refine Kw.WL_v rfl rfl rfl (Kw.R_nei (z := true) rfl rfl (decide_eq_false (by omega))) ?_
  refine Kw.WL_nil ?_
  refine hK4 _ _ ?_; clear hK4 K4
  refine Kw.WC_true rfl ?_
  refine Kw.WC_seq (fun K5 hK5 => ?_)
  refine Kw.WC_region [some 12, some 4] rfl ?_
  refine Kw.WL_v rfl rfl rfl (Kw.R_move rfl) ?_
  refine Kw.WL_v rfl rfl rfl (Kw.R_assign rfl) ?_
  refine Kw.WL_nil ?_
  refine hK5 _ _ ?_; clear hK5 K5
  refine Kw.WC_sub (l' := [(4, .int .i64 1)]) (Kw.Sub.cons rfl Kw.Sub.nil) ?_
  refine Kw.WC_ret ?_
  refine Kw.QR_then ?_; clear hK3 K3
  exact Kw.post_ret1 rfl rfl ⟨rfl, rfl⟩
set_option maxRecDepth 100000 in
set_option maxHeartbeats 4000000 in
theorem has_zero (tb : Nat) (w : World) (A_tb : Kw.At w tb #[.map none, .slice none 0 0, .int .i64 0, .bool false, .int .i64 0, .bool false, .int .i64 0, .int .i64 0] 52) (n : Int) : Calls Try.prog 25 #[.pointer (some ⟨tb, 0, none⟩), .int .i64 n] w fun e w' => e = .returned (.int .i64 1) ∧ w' = w := by
  have HB : w = w := rfl
  refine Kw.enter Try.func25 rfl Try.ntmps25 rfl rfl ?_
  refine Kw.WC_seq (fun K1 hK1 => ?_)
  refine Kw.WC_region [some 4] rfl ?_
  refine Kw.WL_v rfl rfl rfl (Kw.R_assign rfl) ?_
  refine Kw.WL_nil ?_
  refine hK1 _ _ ?_; clear hK1 K1
  refine Kw.WC_seq (fun K2 hK2 => ?_)
  refine Kw.WC_region [some 8, some 9, some 5] rfl ?_
  refine Kw.WL_v rfl rfl rfl (Kw.R_move rfl) ?_
  refine Kw.WL_callc rfl rfl rfl rfl F.cl28 rfl (ready_zero tb _ A_tb) ?_; intro ww hww; rw [hww]; clear hww ww
  refine Kw.WL_v rfl rfl rfl (Kw.R_assign rfl) ?_
  refine Kw.WL_nil ?_
  refine hK2 _ _ ?_; clear hK2 K2
  refine Kw.WC_seq (fun K3 hK3 => ?_)
  refine Kw.WC_seq (fun K4 hK4 => ?_)
  refine Kw.WC_region [some 10, some 11] rfl ?_
  refine Kw.WL_v rfl rfl rfl (Kw.R_move rfl) ?_
  refine Kw.WL_v rfl rfl rfl (Kw.R_nei (z := true) rfl rfl (decide_eq_false (by omega))) ?_
  refine Kw.WL_nil ?_
  refine hK4 _ _ ?_; clear hK4 K4
  refine Kw.WC_true rfl ?_
  refine Kw.WC_seq (fun K5 hK5 => ?_)
  refine Kw.WC_region [some 12, some 4] rfl ?_
  refine Kw.WL_v rfl rfl rfl (Kw.R_move rfl) ?_
  refine Kw.WL_v rfl rfl rfl (Kw.R_assign rfl) ?_
  refine Kw.WL_nil ?_
  refine hK5 _ _ ?_; clear hK5 K5
  refine Kw.WC_sub (l' := [(4, .int .i64 1)]) (Kw.Sub.cons rfl Kw.Sub.nil) ?_
  refine Kw.WC_ret ?_
  refine Kw.QR_then ?_; clear hK3 K3
  exact Kw.post_ret1 rfl rfl ⟨rfl, rfl⟩
set_option maxRecDepth 100000 in
set_option maxHeartbeats 4000000 in
theorem has_down (tb mb : Nat) (lv : Value) (cap : Int) (starts : Int) (fails : Bool) (left keep : Int) (w : World) (A_tb : Kw.At w tb #[.map (some mb), lv, .int .i64 cap, .bool true, .int .i64 starts, .bool fails, .int .i64 left, .int .i64 keep] 52) (n : Int) : Calls Try.prog 25 #[.pointer (some ⟨tb, 0, none⟩), .int .i64 n] w fun e w' => e = .returned (.int .i64 61) ∧ w' = w := by
  have HB : w = w := rfl
  refine Kw.enter Try.func25 rfl Try.ntmps25 rfl rfl ?_
  refine Kw.WC_seq (fun K1 hK1 => ?_)
  refine Kw.WC_region [some 4] rfl ?_
  refine Kw.WL_v rfl rfl rfl (Kw.R_assign rfl) ?_
  refine Kw.WL_nil ?_
  refine hK1 _ _ ?_; clear hK1 K1
  refine Kw.WC_seq (fun K2 hK2 => ?_)
  refine Kw.WC_region [some 8, some 9, some 5] rfl ?_
  refine Kw.WL_v rfl rfl rfl (Kw.R_move rfl) ?_
  refine Kw.WL_callc rfl rfl rfl rfl F.cl28 rfl (ready_down tb mb lv cap starts fails left keep _ A_tb) ?_; intro ww hww; rw [hww]; clear hww ww
  refine Kw.WL_v rfl rfl rfl (Kw.R_assign rfl) ?_
  refine Kw.WL_nil ?_
  refine hK2 _ _ ?_; clear hK2 K2
  refine Kw.WC_seq (fun K3 hK3 => ?_)
  refine Kw.WC_seq (fun K4 hK4 => ?_)
  refine Kw.WC_region [some 10, some 11] rfl ?_
  refine Kw.WL_v rfl rfl rfl (Kw.R_move rfl) ?_
  refine Kw.WL_v rfl rfl rfl (Kw.R_nei (z := true) rfl rfl (decide_eq_false (by omega))) ?_
  refine Kw.WL_nil ?_
  refine hK4 _ _ ?_; clear hK4 K4
  refine Kw.WC_true rfl ?_
  refine Kw.WC_seq (fun K5 hK5 => ?_)
  refine Kw.WC_region [some 12, some 4] rfl ?_
  refine Kw.WL_v rfl rfl rfl (Kw.R_move rfl) ?_
  refine Kw.WL_v rfl rfl rfl (Kw.R_assign rfl) ?_
  refine Kw.WL_nil ?_
  refine hK5 _ _ ?_; clear hK5 K5
  refine Kw.WC_sub (l' := [(4, .int .i64 61)]) (Kw.Sub.cons rfl Kw.Sub.nil) ?_
  refine Kw.WC_ret ?_
  refine Kw.QR_then ?_; clear hK3 K3
  exact Kw.post_ret1 rfl rfl ⟨rfl, rfl⟩
set_option maxRecDepth 100000 in
set_option maxHeartbeats 4000000 in
theorem has_yes (tb mb : Nat) (lv : Value) (cap : Int) (starts : Int) (fails : Bool) (left keep : Int) (w : World) (A_tb : Kw.At w tb #[.map (some mb), lv, .int .i64 cap, .bool false, .int .i64 starts, .bool fails, .int .i64 left, .int .i64 keep] 52) (T : List (Int × Value)) (A_mb : FM w mb T) (n : Int) (hn : okI n) (fv : Value) (hg : Kw.tget T n = some fv) : Calls Try.prog 25 #[.pointer (some ⟨tb, 0, none⟩), .int .i64 n] w fun e w' => e = .returned (.int .i64 0) ∧ w' = w := by
  have HB : w = w := rfl
  refine Kw.enter Try.func25 rfl Try.ntmps25 rfl rfl ?_
  refine Kw.WC_seq (fun K1 hK1 => ?_)
  refine Kw.WC_region [some 4] rfl ?_
  refine Kw.WL_v rfl rfl rfl (Kw.R_assign rfl) ?_
  refine Kw.WL_nil ?_
  refine hK1 _ _ ?_; clear hK1 K1
  refine Kw.WC_seq (fun K2 hK2 => ?_)
  refine Kw.WC_region [some 8, some 9, some 5] rfl ?_
  refine Kw.WL_v rfl rfl rfl (Kw.R_move rfl) ?_
  refine Kw.WL_callc rfl rfl rfl rfl F.cl28 rfl (ready_up tb mb lv cap starts fails left keep _ A_tb) ?_; intro ww hww; rw [hww]; clear hww ww
  refine Kw.WL_v rfl rfl rfl (Kw.R_assign rfl) ?_
  refine Kw.WL_nil ?_
  refine hK2 _ _ ?_; clear hK2 K2
  refine Kw.WC_seq (fun K3 hK3 => ?_)
  refine Kw.WC_seq (fun K4 hK4 => ?_)
  refine Kw.WC_region [some 10, some 11] rfl ?_
  refine Kw.WL_v rfl rfl rfl (Kw.R_move rfl) ?_
  refine Kw.WL_v rfl rfl rfl (Kw.R_nei (z := false) rfl rfl (decide_eq_true (by omega))) ?_
  refine Kw.WL_nil ?_
  refine hK4 _ _ ?_; clear hK4 K4
  refine Kw.WC_false rfl ?_
  refine Kw.WC_skip ?_
  refine hK3 _ _ ?_; clear hK3 K3
  refine Kw.WC_sub (l' := [(0, .pointer (some ⟨tb, 0, none⟩)), (1, .int .i64 n)]) (Kw.Sub.cons rfl (Kw.Sub.cons rfl Kw.Sub.nil)) ?_
  refine Kw.WC_seq (fun K5 hK5 => ?_)
  refine Kw.WC_seq (fun K6 hK6 => ?_)
  refine Kw.WC_region [some 14, some 15, some 16, some 17, some 18, some 19, some 13, some 20, some 21, some 6, some 7] rfl ?_
  refine Kw.WL_v rfl rfl rfl (Kw.R_move rfl) ?_
  refine Kw.WL_v rfl rfl rfl (Kw.R_nilok rfl) ?_
  refine Kw.WL_v rfl rfl rfl (Kw.R_fieldAddr (o' := 0) (k := 0) rfl Try.underlying52 rfl F.sz49 rfl) ?_
  refine Kw.WL_v rfl rfl rfl (Kw.R_load1 (v := .map (some mb)) rfl Try.underlying49 rfl A_tb rfl) ?_
  refine Kw.WL_v rfl rfl rfl (Kw.R_move rfl) ?_
  refine Kw.WL_v rfl rfl rfl (Kw.R_lookup2 (v := .tuple #[fv, .bool true]) KI3 rfl rfl Try.underlying49 F.ze54 A_mb hn (by rw [hg]; try rfl)) ?_
  refine Kw.WL_v rfl rfl rfl (Kw.R_move rfl) ?_
  refine Kw.WL_v rfl rfl rfl (Kw.R_extract (v := fv) rfl rfl) ?_
  refine Kw.WL_v rfl rfl rfl (Kw.R_extract (v := .bool true) rfl rfl) ?_
  refine Kw.WL_v rfl rfl rfl (Kw.R_assign rfl) ?_
  refine Kw.WL_v rfl rfl rfl (Kw.R_assign rfl) ?_
  refine Kw.WL_nil ?_
  refine hK6 _ _ ?_; clear hK6 K6
  refine Kw.WC_sub (l' := [(7, .bool true)]) (Kw.Sub.cons rfl Kw.Sub.nil) ?_
  refine Kw.WC_seq (fun K7 hK7 => ?_)
  refine Kw.WC_region [some 22, some 23] rfl ?_
  refine Kw.WL_v rfl rfl rfl (Kw.R_move rfl) ?_
  refine Kw.WL_v rfl rfl rfl (Kw.R_not rfl rfl) ?_
  refine Kw.WL_nil ?_
  refine hK7 _ _ ?_; clear hK7 K7
  refine Kw.WC_false rfl ?_
  refine Kw.WC_skip ?_
  refine hK5 _ _ ?_; clear hK5 K5
  refine Kw.WC_seq (fun K8 hK8 => ?_)
  refine Kw.WC_region [some 4] rfl ?_
  refine Kw.WL_v rfl rfl rfl (Kw.R_assign rfl) ?_
  refine Kw.WL_nil ?_
  refine hK8 _ _ ?_; clear hK8 K8
  refine Kw.WC_ret ?_
  exact Kw.post_ret1 rfl rfl ⟨rfl, rfl⟩
set_option maxRecDepth 100000 in
set_option maxHeartbeats 4000000 in
theorem has_no (tb mb : Nat) (lv : Value) (cap : Int) (starts : Int) (fails : Bool) (left keep : Int) (w : World) (A_tb : Kw.At w tb #[.map (some mb), lv, .int .i64 cap, .bool false, .int .i64 starts, .bool fails, .int .i64 left, .int .i64 keep] 52) (T : List (Int × Value)) (A_mb : FM w mb T) (n : Int) (hn : okI n) (hg : Kw.tget T n = none) : Calls Try.prog 25 #[.pointer (some ⟨tb, 0, none⟩), .int .i64 n] w fun e w' => e = .returned (.int .i64 4) ∧ w' = w := by
  have HB : w = w := rfl
  refine Kw.enter Try.func25 rfl Try.ntmps25 rfl rfl ?_
  refine Kw.WC_seq (fun K1 hK1 => ?_)
  refine Kw.WC_region [some 4] rfl ?_
  refine Kw.WL_v rfl rfl rfl (Kw.R_assign rfl) ?_
  refine Kw.WL_nil ?_
  refine hK1 _ _ ?_; clear hK1 K1
  refine Kw.WC_seq (fun K2 hK2 => ?_)
  refine Kw.WC_region [some 8, some 9, some 5] rfl ?_
  refine Kw.WL_v rfl rfl rfl (Kw.R_move rfl) ?_
  refine Kw.WL_callc rfl rfl rfl rfl F.cl28 rfl (ready_up tb mb lv cap starts fails left keep _ A_tb) ?_; intro ww hww; rw [hww]; clear hww ww
  refine Kw.WL_v rfl rfl rfl (Kw.R_assign rfl) ?_
  refine Kw.WL_nil ?_
  refine hK2 _ _ ?_; clear hK2 K2
  refine Kw.WC_seq (fun K3 hK3 => ?_)
  refine Kw.WC_seq (fun K4 hK4 => ?_)
  refine Kw.WC_region [some 10, some 11] rfl ?_
  refine Kw.WL_v rfl rfl rfl (Kw.R_move rfl) ?_
  refine Kw.WL_v rfl rfl rfl (Kw.R_nei (z := false) rfl rfl (decide_eq_true (by omega))) ?_
  refine Kw.WL_nil ?_
  refine hK4 _ _ ?_; clear hK4 K4
  refine Kw.WC_false rfl ?_
  refine Kw.WC_skip ?_
  refine hK3 _ _ ?_; clear hK3 K3
  refine Kw.WC_sub (l' := [(0, .pointer (some ⟨tb, 0, none⟩)), (1, .int .i64 n)]) (Kw.Sub.cons rfl (Kw.Sub.cons rfl Kw.Sub.nil)) ?_
  refine Kw.WC_seq (fun K5 hK5 => ?_)
  refine Kw.WC_seq (fun K6 hK6 => ?_)
  refine Kw.WC_region [some 14, some 15, some 16, some 17, some 18, some 19, some 13, some 20, some 21, some 6, some 7] rfl ?_
  refine Kw.WL_v rfl rfl rfl (Kw.R_move rfl) ?_
  refine Kw.WL_v rfl rfl rfl (Kw.R_nilok rfl) ?_
  refine Kw.WL_v rfl rfl rfl (Kw.R_fieldAddr (o' := 0) (k := 0) rfl Try.underlying52 rfl F.sz49 rfl) ?_
  refine Kw.WL_v rfl rfl rfl (Kw.R_load1 (v := .map (some mb)) rfl Try.underlying49 rfl A_tb rfl) ?_
  refine Kw.WL_v rfl rfl rfl (Kw.R_move rfl) ?_
  refine Kw.WL_v rfl rfl rfl (Kw.R_lookup2 (v := .tuple #[.slice none 0 0, .bool false]) KI3 rfl rfl Try.underlying49 F.ze54 A_mb hn (by rw [hg]; try rfl)) ?_
  refine Kw.WL_v rfl rfl rfl (Kw.R_move rfl) ?_
  refine Kw.WL_v rfl rfl rfl (Kw.R_extract (v := .slice none 0 0) rfl rfl) ?_
  refine Kw.WL_v rfl rfl rfl (Kw.R_extract (v := .bool false) rfl rfl) ?_
  refine Kw.WL_v rfl rfl rfl (Kw.R_assign rfl) ?_
  refine Kw.WL_v rfl rfl rfl (Kw.R_assign rfl) ?_
  refine Kw.WL_nil ?_
  refine hK6 _ _ ?_; clear hK6 K6
  refine Kw.WC_sub (l' := [(7, .bool false)]) (Kw.Sub.cons rfl Kw.Sub.nil) ?_
  refine Kw.WC_seq (fun K7 hK7 => ?_)
  refine Kw.WC_region [some 22, some 23] rfl ?_
  refine Kw.WL_v rfl rfl rfl (Kw.R_move rfl) ?_
  refine Kw.WL_v rfl rfl rfl (Kw.R_not rfl rfl) ?_
  refine Kw.WL_nil ?_
  refine hK7 _ _ ?_; clear hK7 K7
  refine Kw.WC_true rfl ?_
  refine Kw.WC_seq (fun K8 hK8 => ?_)
  refine Kw.WC_region [some 4] rfl ?_
  refine Kw.WL_v rfl rfl rfl (Kw.R_assign rfl) ?_
  refine Kw.WL_nil ?_
  refine hK8 _ _ ?_; clear hK8 K8
  refine Kw.WC_ret ?_
  refine Kw.QR_then ?_; clear hK5 K5
  exact Kw.post_ret1 rfl rfl ⟨rfl, rfl⟩

set_option maxRecDepth 100000 in
set_option maxHeartbeats 4000000 in
theorem up_nil (w : World)  : Calls Try.prog 12 #[.pointer none] w fun e w' => e = .returned (.bool false) ∧ w' = w := by
  have HB : w = w := rfl
  refine Kw.enter Try.func12 rfl Try.ntmps12 rfl rfl ?_
  refine Kw.WC_seq (fun K1 hK1 => ?_)
  refine Kw.WC_region [some 2] rfl ?_
  refine Kw.WL_v rfl rfl rfl (Kw.R_assign rfl) ?_
  refine Kw.WL_nil ?_
  refine hK1 _ _ ?_; clear hK1 K1
  refine Kw.WC_seq (fun K2 hK2 => ?_)
  refine Kw.WC_region [some 3, some 4, some 5, some 2] rfl ?_
  refine Kw.WL_v rfl rfl rfl (Kw.R_move rfl) ?_
  refine Kw.WL_callc rfl rfl rfl rfl F.cl28 rfl (ready_nil _) ?_; intro ww hww; rw [hww]; clear hww ww
  refine Kw.WL_v rfl rfl rfl (Kw.R_eqi (z := false) rfl rfl (decide_eq_false (by omega))) ?_
  refine Kw.WL_v rfl rfl rfl (Kw.R_assign rfl) ?_
  refine Kw.WL_nil ?_
  refine hK2 _ _ ?_; clear hK2 K2
  refine Kw.WC_ret ?_
  exact Kw.post_ret1 rfl rfl ⟨rfl, rfl⟩
set_option maxRecDepth 100000 in
set_option maxHeartbeats 4000000 in
theorem up_zero (tb : Nat) (w : World) (A_tb : Kw.At w tb #[.map none, .slice none 0 0, .int .i64 0, .bool false, .int .i64 0, .bool false, .int .i64 0, .int .i64 0] 52) : Calls Try.prog 12 #[.pointer (some ⟨tb, 0, none⟩)] w fun e w' => e = .returned (.bool false) ∧ w' = w := by
  have HB : w = w := rfl
  refine Kw.enter Try.func12 rfl Try.ntmps12 rfl rfl ?_
  refine Kw.WC_seq (fun K1 hK1 => ?_)
  refine Kw.WC_region [some 2] rfl ?_
  refine Kw.WL_v rfl rfl rfl (Kw.R_assign rfl) ?_
  refine Kw.WL_nil ?_
  refine hK1 _ _ ?_; clear hK1 K1
  refine Kw.WC_seq (fun K2 hK2 => ?_)
  refine Kw.WC_region [some 3, some 4, some 5, some 2] rfl ?_
  refine Kw.WL_v rfl rfl rfl (Kw.R_move rfl) ?_
  refine Kw.WL_callc rfl rfl rfl rfl F.cl28 rfl (ready_zero tb _ A_tb) ?_; intro ww hww; rw [hww]; clear hww ww
  refine Kw.WL_v rfl rfl rfl (Kw.R_eqi (z := false) rfl rfl (decide_eq_false (by omega))) ?_
  refine Kw.WL_v rfl rfl rfl (Kw.R_assign rfl) ?_
  refine Kw.WL_nil ?_
  refine hK2 _ _ ?_; clear hK2 K2
  refine Kw.WC_ret ?_
  exact Kw.post_ret1 rfl rfl ⟨rfl, rfl⟩
set_option maxRecDepth 100000 in
set_option maxHeartbeats 4000000 in
theorem up_up (tb mb : Nat) (lv : Value) (cap : Int) (starts : Int) (fails : Bool) (left keep : Int) (w : World) (A_tb : Kw.At w tb #[.map (some mb), lv, .int .i64 cap, .bool false, .int .i64 starts, .bool fails, .int .i64 left, .int .i64 keep] 52) : Calls Try.prog 12 #[.pointer (some ⟨tb, 0, none⟩)] w fun e w' => e = .returned (.bool true) ∧ w' = w := by
  have HB : w = w := rfl
  refine Kw.enter Try.func12 rfl Try.ntmps12 rfl rfl ?_
  refine Kw.WC_seq (fun K1 hK1 => ?_)
  refine Kw.WC_region [some 2] rfl ?_
  refine Kw.WL_v rfl rfl rfl (Kw.R_assign rfl) ?_
  refine Kw.WL_nil ?_
  refine hK1 _ _ ?_; clear hK1 K1
  refine Kw.WC_seq (fun K2 hK2 => ?_)
  refine Kw.WC_region [some 3, some 4, some 5, some 2] rfl ?_
  refine Kw.WL_v rfl rfl rfl (Kw.R_move rfl) ?_
  refine Kw.WL_callc rfl rfl rfl rfl F.cl28 rfl (ready_up tb mb lv cap starts fails left keep _ A_tb) ?_; intro ww hww; rw [hww]; clear hww ww
  refine Kw.WL_v rfl rfl rfl (Kw.R_eqi (z := true) rfl rfl (decide_eq_true (by omega))) ?_
  refine Kw.WL_v rfl rfl rfl (Kw.R_assign rfl) ?_
  refine Kw.WL_nil ?_
  refine hK2 _ _ ?_; clear hK2 K2
  refine Kw.WC_ret ?_
  exact Kw.post_ret1 rfl rfl ⟨rfl, rfl⟩
set_option maxRecDepth 100000 in
set_option maxHeartbeats 4000000 in
theorem up_down (tb mb : Nat) (lv : Value) (cap : Int) (starts : Int) (fails : Bool) (left keep : Int) (w : World) (A_tb : Kw.At w tb #[.map (some mb), lv, .int .i64 cap, .bool true, .int .i64 starts, .bool fails, .int .i64 left, .int .i64 keep] 52) : Calls Try.prog 12 #[.pointer (some ⟨tb, 0, none⟩)] w fun e w' => e = .returned (.bool false) ∧ w' = w := by
  have HB : w = w := rfl
  refine Kw.enter Try.func12 rfl Try.ntmps12 rfl rfl ?_
  refine Kw.WC_seq (fun K1 hK1 => ?_)
  refine Kw.WC_region [some 2] rfl ?_
  refine Kw.WL_v rfl rfl rfl (Kw.R_assign rfl) ?_
  refine Kw.WL_nil ?_
  refine hK1 _ _ ?_; clear hK1 K1
  refine Kw.WC_seq (fun K2 hK2 => ?_)
  refine Kw.WC_region [some 3, some 4, some 5, some 2] rfl ?_
  refine Kw.WL_v rfl rfl rfl (Kw.R_move rfl) ?_
  refine Kw.WL_callc rfl rfl rfl rfl F.cl28 rfl (ready_down tb mb lv cap starts fails left keep _ A_tb) ?_; intro ww hww; rw [hww]; clear hww ww
  refine Kw.WL_v rfl rfl rfl (Kw.R_eqi (z := false) rfl rfl (decide_eq_false (by omega))) ?_
  refine Kw.WL_v rfl rfl rfl (Kw.R_assign rfl) ?_
  refine Kw.WL_nil ?_
  refine hK2 _ _ ?_; clear hK2 K2
  refine Kw.WC_ret ?_
  exact Kw.post_ret1 rfl rfl ⟨rfl, rfl⟩

set_option maxRecDepth 100000 in
set_option maxHeartbeats 4000000 in
theorem create_nil (w : World)  (n : Int) : Calls Try.prog 8 #[.pointer none, .int .i64 n] w fun e w' => e = .returned (.int .i64 1) ∧ w' = w := by
  have HB : w = w := rfl
  refine Kw.enter Try.func8 rfl Try.ntmps8 rfl rfl ?_
  refine Kw.WC_seq (fun K1 hK1 => ?_)
  refine Kw.WC_region [some 4] rfl ?_
  refine Kw.WL_v rfl rfl rfl (Kw.R_assign rfl) ?_
  refine Kw.WL_nil ?_
  refine hK1 _ _ ?_; clear hK1 K1
  refine Kw.WC_seq (fun K2 hK2 => ?_)
  refine Kw.WC_region [some 6, some 7, some 8, some 5] rfl ?_
  refine Kw.WL_v rfl rfl rfl (Kw.R_move rfl) ?_
  refine Kw.WL_v rfl rfl rfl (Kw.R_move rfl) ?_
  refine Kw.WL_callc rfl rfl rfl rfl F.cl25 rfl (has_nil _ n) ?_; intro ww hww; rw [hww]; clear hww ww
  refine Kw.WL_v rfl rfl rfl (Kw.R_assign rfl) ?_
  refine Kw.WL_nil ?_
  refine hK2 _ _ ?_; clear hK2 K2
  refine Kw.WC_seq (fun K3 hK3 => ?_)
  refine Kw.WC_block ?_
  refine Kw.WC_seq (fun K4 hK4 => ?_)
  refine Kw.WC_seq (fun K5 hK5 => ?_)
  refine Kw.WC_region [some 10, some 11, some 9] rfl ?_
  refine Kw.WL_v rfl rfl rfl (Kw.R_move rfl) ?_
  refine Kw.WL_v rfl rfl rfl (Kw.R_eqi (z := true) rfl rfl (decide_eq_true (by omega))) ?_
  refine Kw.WL_v rfl rfl rfl (Kw.R_assign rfl) ?_
  refine Kw.WL_nil ?_
  refine hK5 _ _ ?_; clear hK5 K5
  refine Kw.WC_sub (l' := [(0, .pointer none), (1, .int .i64 n), (5, .int .i64 1), (9, .bool true)]) (Kw.Sub.cons rfl (Kw.Sub.cons rfl (Kw.Sub.cons rfl (Kw.Sub.cons rfl Kw.Sub.nil)))) ?_
  refine Kw.WC_true rfl ?_
  refine Kw.WC_skip ?_
  refine hK4 _ _ ?_; clear hK4 K4
  refine Kw.WC_true rfl ?_
  refine Kw.WC_seq (fun K6 hK6 => ?_)
  refine Kw.WC_region [some 14, some 4] rfl ?_
  refine Kw.WL_v rfl rfl rfl (Kw.R_move rfl) ?_
  refine Kw.WL_v rfl rfl rfl (Kw.R_assign rfl) ?_
  refine Kw.WL_nil ?_
  refine hK6 _ _ ?_; clear hK6 K6
  refine Kw.WC_ret ?_
  refine Kw.QR_block ?_
  refine Kw.QR_then ?_; clear hK3 K3
  exact Kw.post_ret1 rfl rfl ⟨rfl, rfl⟩
set_option maxRecDepth 100000 in
set_option maxHeartbeats 4000000 in
theorem sync_nil (w : World)  : Calls Try.prog 9 #[.pointer none] w fun e w' => e = .returned (.int .i64 1) ∧ w' = w := by
  have HB : w = w := rfl
  refine Kw.enter Try.func9 rfl Try.ntmps9 rfl rfl ?_
  refine Kw.WC_seq (fun K1 hK1 => ?_)
  refine Kw.WC_region [some 2] rfl ?_
  refine Kw.WL_v rfl rfl rfl (Kw.R_assign rfl) ?_
  refine Kw.WL_nil ?_
  refine hK1 _ _ ?_; clear hK1 K1
  refine Kw.WC_seq (fun K2 hK2 => ?_)
  refine Kw.WC_region [some 4, some 5, some 3] rfl ?_
  refine Kw.WL_v rfl rfl rfl (Kw.R_move rfl) ?_
  refine Kw.WL_callc rfl rfl rfl rfl F.cl28 rfl (ready_nil _) ?_; intro ww hww; rw [hww]; clear hww ww
  refine Kw.WL_v rfl rfl rfl (Kw.R_assign rfl) ?_
  refine Kw.WL_nil ?_
  refine hK2 _ _ ?_; clear hK2 K2
  refine Kw.WC_seq (fun K3 hK3 => ?_)
  refine Kw.WC_block ?_
  refine Kw.WC_seq (fun K4 hK4 => ?_)
  refine Kw.WC_region [some 7, some 8, some 6] rfl ?_
  refine Kw.WL_v rfl rfl rfl (Kw.R_move rfl) ?_
  refine Kw.WL_v rfl rfl rfl (Kw.R_nei (z := true) rfl rfl (decide_eq_false (by omega))) ?_
  refine Kw.WL_v rfl rfl rfl (Kw.R_assign rfl) ?_
  refine Kw.WL_nil ?_
  refine hK4 _ _ ?_; clear hK4 K4
  refine Kw.WC_true rfl ?_
  refine Kw.WC_seq (fun K5 hK5 => ?_)
  refine Kw.WC_region [some 9, some 2] rfl ?_
  refine Kw.WL_v rfl rfl rfl (Kw.R_move rfl) ?_
  refine Kw.WL_v rfl rfl rfl (Kw.R_assign rfl) ?_
  refine Kw.WL_nil ?_
  refine hK5 _ _ ?_; clear hK5 K5
  refine Kw.WC_sub (l' := [(2, .int .i64 1)]) (Kw.Sub.cons rfl Kw.Sub.nil) ?_
  refine Kw.WC_ret ?_
  refine Kw.QR_block ?_
  refine Kw.QR_then ?_; clear hK3 K3
  exact Kw.post_ret1 rfl rfl ⟨rfl, rfl⟩
set_option maxRecDepth 100000 in
set_option maxHeartbeats 4000000 in
theorem append_nil (w : World)  (n : Int) (s : ByteArray) : Calls Try.prog 10 #[.pointer none, .int .i64 n, .string s] w fun e w' => e = .returned (.int .i64 1) ∧ w' = w := by
  have HB : w = w := rfl
  refine Kw.enter Try.func10 rfl Try.ntmps10 rfl rfl ?_
  refine Kw.WC_seq (fun K1 hK1 => ?_)
  refine Kw.WC_region [some 6] rfl ?_
  refine Kw.WL_v rfl rfl rfl (Kw.R_assign rfl) ?_
  refine Kw.WL_nil ?_
  refine hK1 _ _ ?_; clear hK1 K1
  refine Kw.WC_seq (fun K2 hK2 => ?_)
  refine Kw.WC_region [some 8, some 9, some 10, some 7] rfl ?_
  refine Kw.WL_v rfl rfl rfl (Kw.R_move rfl) ?_
  refine Kw.WL_v rfl rfl rfl (Kw.R_move rfl) ?_
  refine Kw.WL_callc rfl rfl rfl rfl F.cl25 rfl (has_nil _ n) ?_; intro ww hww; rw [hww]; clear hww ww
  refine Kw.WL_v rfl rfl rfl (Kw.R_assign rfl) ?_
  refine Kw.WL_nil ?_
  refine hK2 _ _ ?_; clear hK2 K2
  refine Kw.WC_seq (fun K3 hK3 => ?_)
  refine Kw.WC_block ?_
  refine Kw.WC_seq (fun K4 hK4 => ?_)
  refine Kw.WC_region [some 12, some 13, some 11] rfl ?_
  refine Kw.WL_v rfl rfl rfl (Kw.R_move rfl) ?_
  refine Kw.WL_v rfl rfl rfl (Kw.R_nei (z := true) rfl rfl (decide_eq_false (by omega))) ?_
  refine Kw.WL_v rfl rfl rfl (Kw.R_assign rfl) ?_
  refine Kw.WL_nil ?_
  refine hK4 _ _ ?_; clear hK4 K4
  refine Kw.WC_sub (l' := [(0, .pointer none), (1, .int .i64 n), (2, .string s), (7, .int .i64 1), (11, .bool true)]) (Kw.Sub.cons rfl (Kw.Sub.cons rfl (Kw.Sub.cons rfl (Kw.Sub.cons rfl (Kw.Sub.cons rfl Kw.Sub.nil))))) ?_
  refine Kw.WC_true rfl ?_
  refine Kw.WC_seq (fun K5 hK5 => ?_)
  refine Kw.WC_region [some 14, some 6] rfl ?_
  refine Kw.WL_v rfl rfl rfl (Kw.R_move rfl) ?_
  refine Kw.WL_v rfl rfl rfl (Kw.R_assign rfl) ?_
  refine Kw.WL_nil ?_
  refine hK5 _ _ ?_; clear hK5 K5
  refine Kw.WC_sub (l' := [(6, .int .i64 1)]) (Kw.Sub.cons rfl Kw.Sub.nil) ?_
  refine Kw.WC_ret ?_
  refine Kw.QR_block ?_
  refine Kw.QR_then ?_; clear hK3 K3
  exact Kw.post_ret1 rfl rfl ⟨rfl, rfl⟩
set_option maxRecDepth 100000 in
set_option maxHeartbeats 4000000 in
theorem crash_nil (w : World)  (n : Int) : Calls Try.prog 11 #[.pointer none, .int .i64 n] w fun e w' => e = .returned (.int .i64 1) ∧ w' = w := by
  have HB : w = w := rfl
  refine Kw.enter Try.func11 rfl Try.ntmps11 rfl rfl ?_
  refine Kw.WC_seq (fun K1 hK1 => ?_)
  refine Kw.WC_region [some 4] rfl ?_
  refine Kw.WL_v rfl rfl rfl (Kw.R_assign rfl) ?_
  refine Kw.WL_nil ?_
  refine hK1 _ _ ?_; clear hK1 K1
  refine Kw.WC_seq (fun K2 hK2 => ?_)
  refine Kw.WC_seq (fun K3 hK3 => ?_)
  refine Kw.WC_region [some 13, some 14, some 5] rfl ?_
  refine Kw.WL_v rfl rfl rfl (Kw.R_move rfl) ?_
  refine Kw.WL_callc rfl rfl rfl rfl F.cl28 rfl (ready_nil _) ?_; intro ww hww; rw [hww]; clear hww ww
  refine Kw.WL_v rfl rfl rfl (Kw.R_assign rfl) ?_
  refine Kw.WL_nil ?_
  refine hK3 _ _ ?_; clear hK3 K3
  refine Kw.WC_seq (fun K4 hK4 => ?_)
  refine Kw.WC_region [some 15, some 16] rfl ?_
  refine Kw.WL_v rfl rfl rfl (Kw.R_move rfl) ?_
  refine Kw.WL_v rfl rfl rfl (Kw.R_nei (z := true) rfl rfl (decide_eq_false (by omega))) ?_
  refine Kw.WL_nil ?_
  refine hK4 _ _ ?_; clear hK4 K4
  refine Kw.WC_true rfl ?_
  refine Kw.WC_seq (fun K5 hK5 => ?_)
  refine Kw.WC_region [some 17, some 4] rfl ?_
  refine Kw.WL_v rfl rfl rfl (Kw.R_move rfl) ?_
  refine Kw.WL_v rfl rfl rfl (Kw.R_assign rfl) ?_
  refine Kw.WL_nil ?_
  refine hK5 _ _ ?_; clear hK5 K5
  refine Kw.WC_sub (l' := [(4, .int .i64 1)]) (Kw.Sub.cons rfl Kw.Sub.nil) ?_
  refine Kw.WC_ret ?_
  refine Kw.QR_then ?_; clear hK2 K2
  exact Kw.post_ret1 rfl rfl ⟨rfl, rfl⟩
set_option maxRecDepth 100000 in
set_option maxHeartbeats 4000000 in
theorem start_nil (w : World)  : Calls Try.prog 13 #[.pointer none] w fun e w' => e = .returned (.int .i64 1) ∧ w' = w := by
  have HB : w = w := rfl
  refine Kw.enter Try.func13 rfl Try.ntmps13 rfl rfl ?_
  refine Kw.WC_seq (fun K1 hK1 => ?_)
  refine Kw.WC_region [some 2] rfl ?_
  refine Kw.WL_v rfl rfl rfl (Kw.R_assign rfl) ?_
  refine Kw.WL_nil ?_
  refine hK1 _ _ ?_; clear hK1 K1
  refine Kw.WC_seq (fun K2 hK2 => ?_)
  refine Kw.WC_block ?_
  refine Kw.WC_seq (fun K3 hK3 => ?_)
  refine Kw.WC_region [some 4, some 5, some 3] rfl ?_
  refine Kw.WL_v rfl rfl rfl (Kw.R_move rfl) ?_
  refine Kw.WL_callc rfl rfl rfl rfl F.cl29 rfl (none_nil _) ?_; intro ww hww; rw [hww]; clear hww ww
  refine Kw.WL_v rfl rfl rfl (Kw.R_assign rfl) ?_
  refine Kw.WL_nil ?_
  refine hK3 _ _ ?_; clear hK3 K3
  refine Kw.WC_true rfl ?_
  refine Kw.WC_seq (fun K4 hK4 => ?_)
  refine Kw.WC_region [some 2] rfl ?_
  refine Kw.WL_v rfl rfl rfl (Kw.R_assign rfl) ?_
  refine Kw.WL_nil ?_
  refine hK4 _ _ ?_; clear hK4 K4
  refine Kw.WC_ret ?_
  refine Kw.QR_block ?_
  refine Kw.QR_then ?_; clear hK2 K2
  exact Kw.post_ret1 rfl rfl ⟨rfl, rfl⟩
set_option maxRecDepth 100000 in
set_option maxHeartbeats 4000000 in
theorem loose_nil (w : World)  : Calls Try.prog 14 #[.pointer none] w fun e w' => e = .returned (.int .i64 0) ∧ w' = w := by
  have HB : w = w := rfl
  refine Kw.enter Try.func14 rfl Try.ntmps14 rfl rfl ?_
  refine Kw.WC_seq (fun K1 hK1 => ?_)
  refine Kw.WC_region [some 2] rfl ?_
  refine Kw.WL_v rfl rfl rfl (Kw.R_assign rfl) ?_
  refine Kw.WL_nil ?_
  refine hK1 _ _ ?_; clear hK1 K1
  refine Kw.WC_seq (fun K2 hK2 => ?_)
  refine Kw.WC_seq (fun K3 hK3 => ?_)
  refine Kw.WC_region [some 6, some 7] rfl ?_
  refine Kw.WL_v rfl rfl rfl (Kw.R_move rfl) ?_
  refine Kw.WL_callc rfl rfl rfl rfl F.cl29 rfl (none_nil _) ?_; intro ww hww; rw [hww]; clear hww ww
  refine Kw.WL_nil ?_
  refine hK3 _ _ ?_; clear hK3 K3
  refine Kw.WC_true rfl ?_
  refine Kw.WC_seq (fun K4 hK4 => ?_)
  refine Kw.WC_region [some 2] rfl ?_
  refine Kw.WL_v rfl rfl rfl (Kw.R_assign rfl) ?_
  refine Kw.WL_nil ?_
  refine hK4 _ _ ?_; clear hK4 K4
  refine Kw.WC_ret ?_
  refine Kw.QR_then ?_; clear hK2 K2
  exact Kw.post_ret1 rfl rfl ⟨rfl, rfl⟩
set_option maxRecDepth 100000 in
set_option maxHeartbeats 4000000 in
theorem fail_nil (w : World)  (n m : Int) : Calls Try.prog 16 #[.pointer none, .int .i64 n, .int .i64 m] w fun e w' => e = .returned (.int .i64 1) ∧ w' = w := by
  have HB : w = w := rfl
  refine Kw.enter Try.func16 rfl Try.ntmps16 rfl rfl ?_
  refine Kw.WC_seq (fun K1 hK1 => ?_)
  refine Kw.WC_region [some 6] rfl ?_
  refine Kw.WL_v rfl rfl rfl (Kw.R_assign rfl) ?_
  refine Kw.WL_nil ?_
  refine hK1 _ _ ?_; clear hK1 K1
  refine Kw.WC_seq (fun K2 hK2 => ?_)
  refine Kw.WC_region [some 8, some 9, some 7] rfl ?_
  refine Kw.WL_v rfl rfl rfl (Kw.R_move rfl) ?_
  refine Kw.WL_callc rfl rfl rfl rfl F.cl28 rfl (ready_nil _) ?_; intro ww hww; rw [hww]; clear hww ww
  refine Kw.WL_v rfl rfl rfl (Kw.R_assign rfl) ?_
  refine Kw.WL_nil ?_
  refine hK2 _ _ ?_; clear hK2 K2
  refine Kw.WC_seq (fun K3 hK3 => ?_)
  refine Kw.WC_block ?_
  refine Kw.WC_seq (fun K4 hK4 => ?_)
  refine Kw.WC_region [some 11, some 12, some 10] rfl ?_
  refine Kw.WL_v rfl rfl rfl (Kw.R_move rfl) ?_
  refine Kw.WL_v rfl rfl rfl (Kw.R_nei (z := true) rfl rfl (decide_eq_false (by omega))) ?_
  refine Kw.WL_v rfl rfl rfl (Kw.R_assign rfl) ?_
  refine Kw.WL_nil ?_
  refine hK4 _ _ ?_; clear hK4 K4
  refine Kw.WC_true rfl ?_
  refine Kw.WC_seq (fun K5 hK5 => ?_)
  refine Kw.WC_region [some 13, some 6] rfl ?_
  refine Kw.WL_v rfl rfl rfl (Kw.R_move rfl) ?_
  refine Kw.WL_v rfl rfl rfl (Kw.R_assign rfl) ?_
  refine Kw.WL_nil ?_
  refine hK5 _ _ ?_; clear hK5 K5
  refine Kw.WC_sub (l' := [(6, .int .i64 1)]) (Kw.Sub.cons rfl Kw.Sub.nil) ?_
  refine Kw.WC_ret ?_
  refine Kw.QR_block ?_
  refine Kw.QR_then ?_; clear hK3 K3
  exact Kw.post_ret1 rfl rfl ⟨rfl, rfl⟩
set_option maxRecDepth 100000 in
set_option maxHeartbeats 4000000 in
theorem delete_nil (w : World)  (n : Int) : Calls Try.prog 17 #[.pointer none, .int .i64 n] w fun e w' => e = .returned (.int .i64 1) ∧ w' = w := by
  have HB : w = w := rfl
  refine Kw.enter Try.func17 rfl Try.ntmps17 rfl rfl ?_
  refine Kw.WC_seq (fun K1 hK1 => ?_)
  refine Kw.WC_region [some 4] rfl ?_
  refine Kw.WL_v rfl rfl rfl (Kw.R_assign rfl) ?_
  refine Kw.WL_nil ?_
  refine hK1 _ _ ?_; clear hK1 K1
  refine Kw.WC_seq (fun K2 hK2 => ?_)
  refine Kw.WC_region [some 6, some 7, some 8, some 5] rfl ?_
  refine Kw.WL_v rfl rfl rfl (Kw.R_move rfl) ?_
  refine Kw.WL_v rfl rfl rfl (Kw.R_move rfl) ?_
  refine Kw.WL_callc rfl rfl rfl rfl F.cl25 rfl (has_nil _ n) ?_; intro ww hww; rw [hww]; clear hww ww
  refine Kw.WL_v rfl rfl rfl (Kw.R_assign rfl) ?_
  refine Kw.WL_nil ?_
  refine hK2 _ _ ?_; clear hK2 K2
  refine Kw.WC_seq (fun K3 hK3 => ?_)
  refine Kw.WC_block ?_
  refine Kw.WC_seq (fun K4 hK4 => ?_)
  refine Kw.WC_region [some 10, some 11, some 9] rfl ?_
  refine Kw.WL_v rfl rfl rfl (Kw.R_move rfl) ?_
  refine Kw.WL_v rfl rfl rfl (Kw.R_nei (z := true) rfl rfl (decide_eq_false (by omega))) ?_
  refine Kw.WL_v rfl rfl rfl (Kw.R_assign rfl) ?_
  refine Kw.WL_nil ?_
  refine hK4 _ _ ?_; clear hK4 K4
  refine Kw.WC_sub (l' := [(0, .pointer none), (1, .int .i64 n), (5, .int .i64 1), (9, .bool true)]) (Kw.Sub.cons rfl (Kw.Sub.cons rfl (Kw.Sub.cons rfl (Kw.Sub.cons rfl Kw.Sub.nil)))) ?_
  refine Kw.WC_true rfl ?_
  refine Kw.WC_seq (fun K5 hK5 => ?_)
  refine Kw.WC_region [some 12, some 4] rfl ?_
  refine Kw.WL_v rfl rfl rfl (Kw.R_move rfl) ?_
  refine Kw.WL_v rfl rfl rfl (Kw.R_assign rfl) ?_
  refine Kw.WL_nil ?_
  refine hK5 _ _ ?_; clear hK5 K5
  refine Kw.WC_ret ?_
  refine Kw.QR_block ?_
  refine Kw.QR_then ?_; clear hK3 K3
  exact Kw.post_ret1 rfl rfl ⟨rfl, rfl⟩
set_option maxRecDepth 100000 in
set_option maxHeartbeats 4000000 in
theorem truncate_nil (w : World)  (n m : Int) : Calls Try.prog 18 #[.pointer none, .int .i64 n, .int .i64 m] w fun e w' => e = .returned (.int .i64 1) ∧ w' = w := by
  have HB : w = w := rfl
  refine Kw.enter Try.func18 rfl Try.ntmps18 rfl rfl ?_
  refine Kw.WC_seq (fun K1 hK1 => ?_)
  refine Kw.WC_region [some 6] rfl ?_
  refine Kw.WL_v rfl rfl rfl (Kw.R_assign rfl) ?_
  refine Kw.WL_nil ?_
  refine hK1 _ _ ?_; clear hK1 K1
  refine Kw.WC_seq (fun K2 hK2 => ?_)
  refine Kw.WC_region [some 9, some 10, some 11, some 7] rfl ?_
  refine Kw.WL_v rfl rfl rfl (Kw.R_move rfl) ?_
  refine Kw.WL_v rfl rfl rfl (Kw.R_move rfl) ?_
  refine Kw.WL_callc rfl rfl rfl rfl F.cl25 rfl (has_nil _ n) ?_; intro ww hww; rw [hww]; clear hww ww
  refine Kw.WL_v rfl rfl rfl (Kw.R_assign rfl) ?_
  refine Kw.WL_nil ?_
  refine hK2 _ _ ?_; clear hK2 K2
  refine Kw.WC_seq (fun K3 hK3 => ?_)
  refine Kw.WC_block ?_
  refine Kw.WC_seq (fun K4 hK4 => ?_)
  refine Kw.WC_region [some 13, some 14, some 12] rfl ?_
  refine Kw.WL_v rfl rfl rfl (Kw.R_move rfl) ?_
  refine Kw.WL_v rfl rfl rfl (Kw.R_nei (z := true) rfl rfl (decide_eq_false (by omega))) ?_
  refine Kw.WL_v rfl rfl rfl (Kw.R_assign rfl) ?_
  refine Kw.WL_nil ?_
  refine hK4 _ _ ?_; clear hK4 K4
  refine Kw.WC_sub (l' := [(0, .pointer none), (1, .int .i64 n), (2, .int .i64 m), (7, .int .i64 1), (12, .bool true)]) (Kw.Sub.cons rfl (Kw.Sub.cons rfl (Kw.Sub.cons rfl (Kw.Sub.cons rfl (Kw.Sub.cons rfl Kw.Sub.nil))))) ?_
  refine Kw.WC_true rfl ?_
  refine Kw.WC_seq (fun K5 hK5 => ?_)
  refine Kw.WC_region [some 15, some 6] rfl ?_
  refine Kw.WL_v rfl rfl rfl (Kw.R_move rfl) ?_
  refine Kw.WL_v rfl rfl rfl (Kw.R_assign rfl) ?_
  refine Kw.WL_nil ?_
  refine hK5 _ _ ?_; clear hK5 K5
  refine Kw.WC_sub (l' := [(6, .int .i64 1)]) (Kw.Sub.cons rfl Kw.Sub.nil) ?_
  refine Kw.WC_ret ?_
  refine Kw.QR_block ?_
  refine Kw.QR_then ?_; clear hK3 K3
  exact Kw.post_ret1 rfl rfl ⟨rfl, rfl⟩
set_option maxRecDepth 100000 in
set_option maxHeartbeats 4000000 in
theorem files_nil (w : World)  : Calls Try.prog 19 #[.pointer none] w fun e w' => e = .returned (.slice none 0 0) ∧ w' = w := by
  have HB : w = w := rfl
  refine Kw.enter Try.func19 rfl Try.ntmps19 rfl rfl ?_
  refine Kw.WC_seq (fun K1 hK1 => ?_)
  refine Kw.WC_region [some 2] rfl ?_
  refine Kw.WL_v rfl rfl rfl (Kw.R_assign rfl) ?_
  refine Kw.WL_nil ?_
  refine hK1 _ _ ?_; clear hK1 K1
  refine Kw.WC_seq (fun K2 hK2 => ?_)
  refine Kw.WC_seq (fun K3 hK3 => ?_)
  refine Kw.WC_region [some 3, some 4] rfl ?_
  refine Kw.WL_v rfl rfl rfl (Kw.R_move rfl) ?_
  refine Kw.WL_callc rfl rfl rfl rfl F.cl29 rfl (none_nil _) ?_; intro ww hww; rw [hww]; clear hww ww
  refine Kw.WL_nil ?_
  refine hK3 _ _ ?_; clear hK3 K3
  refine Kw.WC_true rfl ?_
  refine Kw.WC_seq (fun K4 hK4 => ?_)
  refine Kw.WC_region [some 2] rfl ?_
  refine Kw.WL_v rfl rfl rfl (Kw.R_assign rfl) ?_
  refine Kw.WL_nil ?_
  refine hK4 _ _ ?_; clear hK4 K4
  refine Kw.WC_ret ?_
  refine Kw.QR_then ?_; clear hK2 K2
  exact Kw.post_ret1 rfl rfl ⟨rfl, rfl⟩
set_option maxRecDepth 100000 in
set_option maxHeartbeats 4000000 in
theorem read_nil (w : World)  (n m k : Int) : Calls Try.prog 21 #[.pointer none, .int .i64 n, .int .i64 m, .int .i64 k] w fun e w' => e = .returned (.tuple #[.string ⟨#[]⟩, .int .i64 1]) ∧ w' = w := by
  have HB : w = w := rfl
  refine Kw.enter Try.func21 rfl Try.ntmps21 rfl rfl ?_
  refine Kw.WC_seq (fun K1 hK1 => ?_)
  refine Kw.WC_region [some 8, some 9] rfl ?_
  refine Kw.WL_v rfl rfl rfl (Kw.R_assign rfl) ?_
  refine Kw.WL_v rfl rfl rfl (Kw.R_assign rfl) ?_
  refine Kw.WL_nil ?_
  refine hK1 _ _ ?_; clear hK1 K1
  refine Kw.WC_seq (fun K2 hK2 => ?_)
  refine Kw.WC_seq (fun K3 hK3 => ?_)
  refine Kw.WC_region [some 12, some 13, some 14, some 10] rfl ?_
  refine Kw.WL_v rfl rfl rfl (Kw.R_move rfl) ?_
  refine Kw.WL_v rfl rfl rfl (Kw.R_move rfl) ?_
  refine Kw.WL_callc rfl rfl rfl rfl F.cl25 rfl (has_nil _ n) ?_; intro ww hww; rw [hww]; clear hww ww
  refine Kw.WL_v rfl rfl rfl (Kw.R_assign rfl) ?_
  refine Kw.WL_nil ?_
  refine hK3 _ _ ?_; clear hK3 K3
  refine Kw.WC_seq (fun K4 hK4 => ?_)
  refine Kw.WC_region [some 15, some 16] rfl ?_
  refine Kw.WL_v rfl rfl rfl (Kw.R_move rfl) ?_
  refine Kw.WL_v rfl rfl rfl (Kw.R_nei (z := true) rfl rfl (decide_eq_false (by omega))) ?_
  refine Kw.WL_nil ?_
  refine hK4 _ _ ?_; clear hK4 K4
  refine Kw.WC_sub (l' := [(0, .pointer none), (1, .int .i64 n), (2, .int .i64 m), (3, .int .i64 k), (10, .int .i64 1), (16, .bool true)]) (Kw.Sub.cons rfl (Kw.Sub.cons rfl (Kw.Sub.cons rfl (Kw.Sub.cons rfl (Kw.Sub.cons rfl (Kw.Sub.cons rfl Kw.Sub.nil)))))) ?_
  refine Kw.WC_true rfl ?_
  refine Kw.WC_seq (fun K5 hK5 => ?_)
  refine Kw.WC_region [some 17, some 8, some 9] rfl ?_
  refine Kw.WL_v rfl rfl rfl (Kw.R_move rfl) ?_
  refine Kw.WL_v rfl rfl rfl (Kw.R_assign rfl) ?_
  refine Kw.WL_v rfl rfl rfl (Kw.R_assign rfl) ?_
  refine Kw.WL_nil ?_
  refine hK5 _ _ ?_; clear hK5 K5
  refine Kw.WC_sub (l' := [(8, .string ⟨#[]⟩), (9, .int .i64 1)]) (Kw.Sub.cons rfl (Kw.Sub.cons rfl Kw.Sub.nil)) ?_
  refine Kw.WC_ret ?_
  refine Kw.QR_then ?_; clear hK2 K2
  exact Kw.post_ret2 rfl rfl rfl ⟨rfl, rfl⟩
set_option maxRecDepth 100000 in
set_option maxHeartbeats 4000000 in
theorem size_nil (w : World)  (n : Int) : Calls Try.prog 22 #[.pointer none, .int .i64 n] w fun e w' => e = .returned (.tuple #[.int .i64 0, .int .i64 1]) ∧ w' = w := by
  have HB : w = w := rfl
  refine Kw.enter Try.func22 rfl Try.ntmps22 rfl rfl ?_
  refine Kw.WC_seq (fun K1 hK1 => ?_)
  refine Kw.WC_region [some 4, some 5] rfl ?_
  refine Kw.WL_v rfl rfl rfl (Kw.R_assign rfl) ?_
  refine Kw.WL_v rfl rfl rfl (Kw.R_assign rfl) ?_
  refine Kw.WL_nil ?_
  refine hK1 _ _ ?_; clear hK1 K1
  refine Kw.WC_seq (fun K2 hK2 => ?_)
  refine Kw.WC_seq (fun K3 hK3 => ?_)
  refine Kw.WC_region [some 7, some 8, some 9, some 6] rfl ?_
  refine Kw.WL_v rfl rfl rfl (Kw.R_move rfl) ?_
  refine Kw.WL_v rfl rfl rfl (Kw.R_move rfl) ?_
  refine Kw.WL_callc rfl rfl rfl rfl F.cl25 rfl (has_nil _ n) ?_; intro ww hww; rw [hww]; clear hww ww
  refine Kw.WL_v rfl rfl rfl (Kw.R_assign rfl) ?_
  refine Kw.WL_nil ?_
  refine hK3 _ _ ?_; clear hK3 K3
  refine Kw.WC_seq (fun K4 hK4 => ?_)
  refine Kw.WC_region [some 10, some 11] rfl ?_
  refine Kw.WL_v rfl rfl rfl (Kw.R_move rfl) ?_
  refine Kw.WL_v rfl rfl rfl (Kw.R_nei (z := true) rfl rfl (decide_eq_false (by omega))) ?_
  refine Kw.WL_nil ?_
  refine hK4 _ _ ?_; clear hK4 K4
  refine Kw.WC_sub (l' := [(0, .pointer none), (1, .int .i64 n), (6, .int .i64 1), (11, .bool true)]) (Kw.Sub.cons rfl (Kw.Sub.cons rfl (Kw.Sub.cons rfl (Kw.Sub.cons rfl Kw.Sub.nil)))) ?_
  refine Kw.WC_true rfl ?_
  refine Kw.WC_seq (fun K5 hK5 => ?_)
  refine Kw.WC_region [some 12, some 4, some 5] rfl ?_
  refine Kw.WL_v rfl rfl rfl (Kw.R_move rfl) ?_
  refine Kw.WL_v rfl rfl rfl (Kw.R_assign rfl) ?_
  refine Kw.WL_v rfl rfl rfl (Kw.R_assign rfl) ?_
  refine Kw.WL_nil ?_
  refine hK5 _ _ ?_; clear hK5 K5
  refine Kw.WC_ret ?_
  refine Kw.QR_then ?_; clear hK2 K2
  exact Kw.post_ret2 rfl rfl rfl ⟨rfl, rfl⟩
set_option maxRecDepth 100000 in
set_option maxHeartbeats 4000000 in
theorem free_nil (w : World)  : Calls Try.prog 23 #[.pointer none] w fun e w' => e = .returned (.int .i64 0) ∧ w' = w := by
  have HB : w = w := rfl
  refine Kw.enter Try.func23 rfl Try.ntmps23 rfl rfl ?_
  refine Kw.WC_seq (fun K1 hK1 => ?_)
  refine Kw.WC_region [some 2] rfl ?_
  refine Kw.WL_v rfl rfl rfl (Kw.R_assign rfl) ?_
  refine Kw.WL_nil ?_
  refine hK1 _ _ ?_; clear hK1 K1
  refine Kw.WC_seq (fun K2 hK2 => ?_)
  refine Kw.WC_seq (fun K3 hK3 => ?_)
  refine Kw.WC_region [some 6, some 7] rfl ?_
  refine Kw.WL_v rfl rfl rfl (Kw.R_move rfl) ?_
  refine Kw.WL_callc rfl rfl rfl rfl F.cl29 rfl (none_nil _) ?_; intro ww hww; rw [hww]; clear hww ww
  refine Kw.WL_nil ?_
  refine hK3 _ _ ?_; clear hK3 K3
  refine Kw.WC_true rfl ?_
  refine Kw.WC_seq (fun K4 hK4 => ?_)
  refine Kw.WC_region [some 2] rfl ?_
  refine Kw.WL_v rfl rfl rfl (Kw.R_assign rfl) ?_
  refine Kw.WL_nil ?_
  refine hK4 _ _ ?_; clear hK4 K4
  refine Kw.WC_ret ?_
  refine Kw.QR_then ?_; clear hK2 K2
  exact Kw.post_ret1 rfl rfl ⟨rfl, rfl⟩
set_option maxRecDepth 100000 in
set_option maxHeartbeats 4000000 in
theorem starts_nil (w : World)  : Calls Try.prog 24 #[.pointer none] w fun e w' => e = .returned (.int .i64 0) ∧ w' = w := by
  have HB : w = w := rfl
  refine Kw.enter Try.func24 rfl Try.ntmps24 rfl rfl ?_
  refine Kw.WC_seq (fun K1 hK1 => ?_)
  refine Kw.WC_region [some 2] rfl ?_
  refine Kw.WL_v rfl rfl rfl (Kw.R_assign rfl) ?_
  refine Kw.WL_nil ?_
  refine hK1 _ _ ?_; clear hK1 K1
  refine Kw.WC_seq (fun K2 hK2 => ?_)
  refine Kw.WC_seq (fun K3 hK3 => ?_)
  refine Kw.WC_region [some 3, some 4] rfl ?_
  refine Kw.WL_v rfl rfl rfl (Kw.R_move rfl) ?_
  refine Kw.WL_callc rfl rfl rfl rfl F.cl29 rfl (none_nil _) ?_; intro ww hww; rw [hww]; clear hww ww
  refine Kw.WL_nil ?_
  refine hK3 _ _ ?_; clear hK3 K3
  refine Kw.WC_true rfl ?_
  refine Kw.WC_seq (fun K4 hK4 => ?_)
  refine Kw.WC_region [some 2] rfl ?_
  refine Kw.WL_v rfl rfl rfl (Kw.R_assign rfl) ?_
  refine Kw.WL_nil ?_
  refine hK4 _ _ ?_; clear hK4 K4
  refine Kw.WC_ret ?_
  refine Kw.QR_then ?_; clear hK2 K2
  exact Kw.post_ret1 rfl rfl ⟨rfl, rfl⟩
set_option maxRecDepth 100000 in
set_option maxHeartbeats 4000000 in
theorem create_zero (tb : Nat) (w : World) (A_tb : Kw.At w tb #[.map none, .slice none 0 0, .int .i64 0, .bool false, .int .i64 0, .bool false, .int .i64 0, .int .i64 0] 52) (n : Int) : Calls Try.prog 8 #[.pointer (some ⟨tb, 0, none⟩), .int .i64 n] w fun e w' => e = .returned (.int .i64 1) ∧ w' = w := by
  have HB : w = w := rfl
  refine Kw.enter Try.func8 rfl Try.ntmps8 rfl rfl ?_
  refine Kw.WC_seq (fun K1 hK1 => ?_)
  refine Kw.WC_region [some 4] rfl ?_
  refine Kw.WL_v rfl rfl rfl (Kw.R_assign rfl) ?_
  refine Kw.WL_nil ?_
  refine hK1 _ _ ?_; clear hK1 K1
  refine Kw.WC_seq (fun K2 hK2 => ?_)
  refine Kw.WC_region [some 6, some 7, some 8, some 5] rfl ?_
  refine Kw.WL_v rfl rfl rfl (Kw.R_move rfl) ?_
  refine Kw.WL_v rfl rfl rfl (Kw.R_move rfl) ?_
  refine Kw.WL_callc rfl rfl rfl rfl F.cl25 rfl (has_zero tb _ A_tb n) ?_; intro ww hww; rw [hww]; clear hww ww
  refine Kw.WL_v rfl rfl rfl (Kw.R_assign rfl) ?_
  refine Kw.WL_nil ?_
  refine hK2 _ _ ?_; clear hK2 K2
  refine Kw.WC_seq (fun K3 hK3 => ?_)
  refine Kw.WC_block ?_
  refine Kw.WC_seq (fun K4 hK4 => ?_)
  refine Kw.WC_seq (fun K5 hK5 => ?_)
  refine Kw.WC_region [some 10, some 11, some 9] rfl ?_
  refine Kw.WL_v rfl rfl rfl (Kw.R_move rfl) ?_
  refine Kw.WL_v rfl rfl rfl (Kw.R_eqi (z := true) rfl rfl (decide_eq_true (by omega))) ?_
  refine Kw.WL_v rfl rfl rfl (Kw.R_assign rfl) ?_
  refine Kw.WL_nil ?_
  refine hK5 _ _ ?_; clear hK5 K5
  refine Kw.WC_sub (l' := [(0, .pointer (some ⟨tb, 0, none⟩)), (1, .int .i64 n), (5, .int .i64 1), (9, .bool true)]) (Kw.Sub.cons rfl (Kw.Sub.cons rfl (Kw.Sub.cons rfl (Kw.Sub.cons rfl Kw.Sub.nil)))) ?_
  refine Kw.WC_true rfl ?_
  refine Kw.WC_skip ?_
  refine hK4 _ _ ?_; clear hK4 K4
  refine Kw.WC_true rfl ?_
  refine Kw.WC_seq (fun K6 hK6 => ?_)
  refine Kw.WC_region [some 14, some 4] rfl ?_
  refine Kw.WL_v rfl rfl rfl (Kw.R_move rfl) ?_
  refine Kw.WL_v rfl rfl rfl (Kw.R_assign rfl) ?_
  refine Kw.WL_nil ?_
  refine hK6 _ _ ?_; clear hK6 K6
  refine Kw.WC_ret ?_
  refine Kw.QR_block ?_
  refine Kw.QR_then ?_; clear hK3 K3
  exact Kw.post_ret1 rfl rfl ⟨rfl, rfl⟩
set_option maxRecDepth 100000 in
set_option maxHeartbeats 4000000 in
theorem sync_zero (tb : Nat) (w : World) (A_tb : Kw.At w tb #[.map none, .slice none 0 0, .int .i64 0, .bool false, .int .i64 0, .bool false, .int .i64 0, .int .i64 0] 52) : Calls Try.prog 9 #[.pointer (some ⟨tb, 0, none⟩)] w fun e w' => e = .returned (.int .i64 1) ∧ w' = w := by
  have HB : w = w := rfl
  refine Kw.enter Try.func9 rfl Try.ntmps9 rfl rfl ?_
  refine Kw.WC_seq (fun K1 hK1 => ?_)
  refine Kw.WC_region [some 2] rfl ?_
  refine Kw.WL_v rfl rfl rfl (Kw.R_assign rfl) ?_
  refine Kw.WL_nil ?_
  refine hK1 _ _ ?_; clear hK1 K1
  refine Kw.WC_seq (fun K2 hK2 => ?_)
  refine Kw.WC_region [some 4, some 5, some 3] rfl ?_
  refine Kw.WL_v rfl rfl rfl (Kw.R_move rfl) ?_
  refine Kw.WL_callc rfl rfl rfl rfl F.cl28 rfl (ready_zero tb _ A_tb) ?_; intro ww hww; rw [hww]; clear hww ww
  refine Kw.WL_v rfl rfl rfl (Kw.R_assign rfl) ?_
  refine Kw.WL_nil ?_
  refine hK2 _ _ ?_; clear hK2 K2
  refine Kw.WC_seq (fun K3 hK3 => ?_)
  refine Kw.WC_block ?_
  refine Kw.WC_seq (fun K4 hK4 => ?_)
  refine Kw.WC_region [some 7, some 8, some 6] rfl ?_
  refine Kw.WL_v rfl rfl rfl (Kw.R_move rfl) ?_
  refine Kw.WL_v rfl rfl rfl (Kw.R_nei (z := true) rfl rfl (decide_eq_false (by omega))) ?_
  refine Kw.WL_v rfl rfl rfl (Kw.R_assign rfl) ?_
  refine Kw.WL_nil ?_
  refine hK4 _ _ ?_; clear hK4 K4
  refine Kw.WC_true rfl ?_
  refine Kw.WC_seq (fun K5 hK5 => ?_)
  refine Kw.WC_region [some 9, some 2] rfl ?_
  refine Kw.WL_v rfl rfl rfl (Kw.R_move rfl) ?_
  refine Kw.WL_v rfl rfl rfl (Kw.R_assign rfl) ?_
  refine Kw.WL_nil ?_
  refine hK5 _ _ ?_; clear hK5 K5
  refine Kw.WC_sub (l' := [(2, .int .i64 1)]) (Kw.Sub.cons rfl Kw.Sub.nil) ?_
  refine Kw.WC_ret ?_
  refine Kw.QR_block ?_
  refine Kw.QR_then ?_; clear hK3 K3
  exact Kw.post_ret1 rfl rfl ⟨rfl, rfl⟩
set_option maxRecDepth 100000 in
set_option maxHeartbeats 4000000 in
theorem append_zero (tb : Nat) (w : World) (A_tb : Kw.At w tb #[.map none, .slice none 0 0, .int .i64 0, .bool false, .int .i64 0, .bool false, .int .i64 0, .int .i64 0] 52) (n : Int) (s : ByteArray) : Calls Try.prog 10 #[.pointer (some ⟨tb, 0, none⟩), .int .i64 n, .string s] w fun e w' => e = .returned (.int .i64 1) ∧ w' = w := by
  have HB : w = w := rfl
  refine Kw.enter Try.func10 rfl Try.ntmps10 rfl rfl ?_
  refine Kw.WC_seq (fun K1 hK1 => ?_)
  refine Kw.WC_region [some 6] rfl ?_
  refine Kw.WL_v rfl rfl rfl (Kw.R_assign rfl) ?_
  refine Kw.WL_nil ?_
  refine hK1 _ _ ?_; clear hK1 K1
  refine Kw.WC_seq (fun K2 hK2 => ?_)
  refine Kw.WC_region [some 8, some 9, some 10, some 7] rfl ?_
  refine Kw.WL_v rfl rfl rfl (Kw.R_move rfl) ?_
  refine Kw.WL_v rfl rfl rfl (Kw.R_move rfl) ?_
  refine Kw.WL_callc rfl rfl rfl rfl F.cl25 rfl (has_zero tb _ A_tb n) ?_; intro ww hww; rw [hww]; clear hww ww
  refine Kw.WL_v rfl rfl rfl (Kw.R_assign rfl) ?_
  refine Kw.WL_nil ?_
  refine hK2 _ _ ?_; clear hK2 K2
  refine Kw.WC_seq (fun K3 hK3 => ?_)
  refine Kw.WC_block ?_
  refine Kw.WC_seq (fun K4 hK4 => ?_)
  refine Kw.WC_region [some 12, some 13, some 11] rfl ?_
  refine Kw.WL_v rfl rfl rfl (Kw.R_move rfl) ?_
  refine Kw.WL_v rfl rfl rfl (Kw.R_nei (z := true) rfl rfl (decide_eq_false (by omega))) ?_
  refine Kw.WL_v rfl rfl rfl (Kw.R_assign rfl) ?_
  refine Kw.WL_nil ?_
  refine hK4 _ _ ?_; clear hK4 K4
  refine Kw.WC_sub (l' := [(0, .pointer (some ⟨tb, 0, none⟩)), (1, .int .i64 n), (2, .string s), (7, .int .i64 1), (11, .bool true)]) (Kw.Sub.cons rfl (Kw.Sub.cons rfl (Kw.Sub.cons rfl (Kw.Sub.cons rfl (Kw.Sub.cons rfl Kw.Sub.nil))))) ?_
  refine Kw.WC_true rfl ?_
  refine Kw.WC_seq (fun K5 hK5 => ?_)
  refine Kw.WC_region [some 14, some 6] rfl ?_
  refine Kw.WL_v rfl rfl rfl (Kw.R_move rfl) ?_
  refine Kw.WL_v rfl rfl rfl (Kw.R_assign rfl) ?_
  refine Kw.WL_nil ?_
  refine hK5 _ _ ?_; clear hK5 K5
  refine Kw.WC_sub (l' := [(6, .int .i64 1)]) (Kw.Sub.cons rfl Kw.Sub.nil) ?_
  refine Kw.WC_ret ?_
  refine Kw.QR_block ?_
  refine Kw.QR_then ?_; clear hK3 K3
  exact Kw.post_ret1 rfl rfl ⟨rfl, rfl⟩
set_option maxRecDepth 100000 in
set_option maxHeartbeats 4000000 in
theorem crash_zero (tb : Nat) (w : World) (A_tb : Kw.At w tb #[.map none, .slice none 0 0, .int .i64 0, .bool false, .int .i64 0, .bool false, .int .i64 0, .int .i64 0] 52) (n : Int) : Calls Try.prog 11 #[.pointer (some ⟨tb, 0, none⟩), .int .i64 n] w fun e w' => e = .returned (.int .i64 1) ∧ w' = w := by
  have HB : w = w := rfl
  refine Kw.enter Try.func11 rfl Try.ntmps11 rfl rfl ?_
  refine Kw.WC_seq (fun K1 hK1 => ?_)
  refine Kw.WC_region [some 4] rfl ?_
  refine Kw.WL_v rfl rfl rfl (Kw.R_assign rfl) ?_
  refine Kw.WL_nil ?_
  refine hK1 _ _ ?_; clear hK1 K1
  refine Kw.WC_seq (fun K2 hK2 => ?_)
  refine Kw.WC_seq (fun K3 hK3 => ?_)
  refine Kw.WC_region [some 13, some 14, some 5] rfl ?_
  refine Kw.WL_v rfl rfl rfl (Kw.R_move rfl) ?_
  refine Kw.WL_callc rfl rfl rfl rfl F.cl28 rfl (ready_zero tb _ A_tb) ?_; intro ww hww; rw [hww]; clear hww ww
  refine Kw.WL_v rfl rfl rfl (Kw.R_assign rfl) ?_
  refine Kw.WL_nil ?_
  refine hK3 _ _ ?_; clear hK3 K3
  refine Kw.WC_seq (fun K4 hK4 => ?_)
  refine Kw.WC_region [some 15, some 16] rfl ?_
  refine Kw.WL_v rfl rfl rfl (Kw.R_move rfl) ?_
  refine Kw.WL_v rfl rfl rfl (Kw.R_nei (z := true) rfl rfl (decide_eq_false (by omega))) ?_
  refine Kw.WL_nil ?_
  refine hK4 _ _ ?_; clear hK4 K4
  refine Kw.WC_true rfl ?_
  refine Kw.WC_seq (fun K5 hK5 => ?_)
  refine Kw.WC_region [some 17, some 4] rfl ?_
  refine Kw.WL_v rfl rfl rfl (Kw.R_move rfl) ?_
  refine Kw.WL_v rfl rfl rfl (Kw.R_assign rfl) ?_
  refine Kw.WL_nil ?_
  refine hK5 _ _ ?_; clear hK5 K5
  refine Kw.WC_sub (l' := [(4, .int .i64 1)]) (Kw.Sub.cons rfl Kw.Sub.nil) ?_
  refine Kw.WC_ret ?_
  refine Kw.QR_then ?_; clear hK2 K2
  exact Kw.post_ret1 rfl rfl ⟨rfl, rfl⟩
set_option maxRecDepth 100000 in
set_option maxHeartbeats 4000000 in
theorem start_zero (tb : Nat) (w : World) (A_tb : Kw.At w tb #[.map none, .slice none 0 0, .int .i64 0, .bool false, .int .i64 0, .bool false, .int .i64 0, .int .i64 0] 52) : Calls Try.prog 13 #[.pointer (some ⟨tb, 0, none⟩)] w fun e w' => e = .returned (.int .i64 1) ∧ w' = w := by
  have HB : w = w := rfl
  refine Kw.enter Try.func13 rfl Try.ntmps13 rfl rfl ?_
  refine Kw.WC_seq (fun K1 hK1 => ?_)
  refine Kw.WC_region [some 2] rfl ?_
  refine Kw.WL_v rfl rfl rfl (Kw.R_assign rfl) ?_
  refine Kw.WL_nil ?_
  refine hK1 _ _ ?_; clear hK1 K1
  refine Kw.WC_seq (fun K2 hK2 => ?_)
  refine Kw.WC_block ?_
  refine Kw.WC_seq (fun K3 hK3 => ?_)
  refine Kw.WC_region [some 4, some 5, some 3] rfl ?_
  refine Kw.WL_v rfl rfl rfl (Kw.R_move rfl) ?_
  refine Kw.WL_callc rfl rfl rfl rfl F.cl29 rfl (none_zero tb _ A_tb) ?_; intro ww hww; rw [hww]; clear hww ww
  refine Kw.WL_v rfl rfl rfl (Kw.R_assign rfl) ?_
  refine Kw.WL_nil ?_
  refine hK3 _ _ ?_; clear hK3 K3
  refine Kw.WC_true rfl ?_
  refine Kw.WC_seq (fun K4 hK4 => ?_)
  refine Kw.WC_region [some 2] rfl ?_
  refine Kw.WL_v rfl rfl rfl (Kw.R_assign rfl) ?_
  refine Kw.WL_nil ?_
  refine hK4 _ _ ?_; clear hK4 K4
  refine Kw.WC_ret ?_
  refine Kw.QR_block ?_
  refine Kw.QR_then ?_; clear hK2 K2
  exact Kw.post_ret1 rfl rfl ⟨rfl, rfl⟩
set_option maxRecDepth 100000 in
set_option maxHeartbeats 4000000 in
theorem loose_zero (tb : Nat) (w : World) (A_tb : Kw.At w tb #[.map none, .slice none 0 0, .int .i64 0, .bool false, .int .i64 0, .bool false, .int .i64 0, .int .i64 0] 52) : Calls Try.prog 14 #[.pointer (some ⟨tb, 0, none⟩)] w fun e w' => e = .returned (.int .i64 0) ∧ w' = w := by
  have HB : w = w := rfl
  refine Kw.enter Try.func14 rfl Try.ntmps14 rfl rfl ?_
  refine Kw.WC_seq (fun K1 hK1 => ?_)
  refine Kw.WC_region [some 2] rfl ?_
  refine Kw.WL_v rfl rfl rfl (Kw.R_assign rfl) ?_
  refine Kw.WL_nil ?_
  refine hK1 _ _ ?_; clear hK1 K1
  refine Kw.WC_seq (fun K2 hK2 => ?_)
  refine Kw.WC_seq (fun K3 hK3 => ?_)
  refine Kw.WC_region [some 6, some 7] rfl ?_
  refine Kw.WL_v rfl rfl rfl (Kw.R_move rfl) ?_
  refine Kw.WL_callc rfl rfl rfl rfl F.cl29 rfl (none_zero tb _ A_tb) ?_; intro ww hww; rw [hww]; clear hww ww
  refine Kw.WL_nil ?_
  refine hK3 _ _ ?_; clear hK3 K3
  refine Kw.WC_true rfl ?_
  refine Kw.WC_seq (fun K4 hK4 => ?_)
  refine Kw.WC_region [some 2] rfl ?_
  refine Kw.WL_v rfl rfl rfl (Kw.R_assign rfl) ?_
  refine Kw.WL_nil ?_
  refine hK4 _ _ ?_; clear hK4 K4
  refine Kw.WC_ret ?_
  refine Kw.QR_then ?_; clear hK2 K2
  exact Kw.post_ret1 rfl rfl ⟨rfl, rfl⟩
set_option maxRecDepth 100000 in
set_option maxHeartbeats 4000000 in
theorem fail_zero (tb : Nat) (w : World) (A_tb : Kw.At w tb #[.map none, .slice none 0 0, .int .i64 0, .bool false, .int .i64 0, .bool false, .int .i64 0, .int .i64 0] 52) (n m : Int) : Calls Try.prog 16 #[.pointer (some ⟨tb, 0, none⟩), .int .i64 n, .int .i64 m] w fun e w' => e = .returned (.int .i64 1) ∧ w' = w := by
  have HB : w = w := rfl
  refine Kw.enter Try.func16 rfl Try.ntmps16 rfl rfl ?_
  refine Kw.WC_seq (fun K1 hK1 => ?_)
  refine Kw.WC_region [some 6] rfl ?_
  refine Kw.WL_v rfl rfl rfl (Kw.R_assign rfl) ?_
  refine Kw.WL_nil ?_
  refine hK1 _ _ ?_; clear hK1 K1
  refine Kw.WC_seq (fun K2 hK2 => ?_)
  refine Kw.WC_region [some 8, some 9, some 7] rfl ?_
  refine Kw.WL_v rfl rfl rfl (Kw.R_move rfl) ?_
  refine Kw.WL_callc rfl rfl rfl rfl F.cl28 rfl (ready_zero tb _ A_tb) ?_; intro ww hww; rw [hww]; clear hww ww
  refine Kw.WL_v rfl rfl rfl (Kw.R_assign rfl) ?_
  refine Kw.WL_nil ?_
  refine hK2 _ _ ?_; clear hK2 K2
  refine Kw.WC_seq (fun K3 hK3 => ?_)
  refine Kw.WC_block ?_
  refine Kw.WC_seq (fun K4 hK4 => ?_)
  refine Kw.WC_region [some 11, some 12, some 10] rfl ?_
  refine Kw.WL_v rfl rfl rfl (Kw.R_move rfl) ?_
  refine Kw.WL_v rfl rfl rfl (Kw.R_nei (z := true) rfl rfl (decide_eq_false (by omega))) ?_
  refine Kw.WL_v rfl rfl rfl (Kw.R_assign rfl) ?_
  refine Kw.WL_nil ?_
  refine hK4 _ _ ?_; clear hK4 K4
  refine Kw.WC_true rfl ?_
  refine Kw.WC_seq (fun K5 hK5 => ?_)
  refine Kw.WC_region [some 13, some 6] rfl ?_
  refine Kw.WL_v rfl rfl rfl (Kw.R_move rfl) ?_
  refine Kw.WL_v rfl rfl rfl (Kw.R_assign rfl) ?_
  refine Kw.WL_nil ?_
  refine hK5 _ _ ?_; clear hK5 K5
  refine Kw.WC_sub (l' := [(6, .int .i64 1)]) (Kw.Sub.cons rfl Kw.Sub.nil) ?_
  refine Kw.WC_ret ?_
  refine Kw.QR_block ?_
  refine Kw.QR_then ?_; clear hK3 K3
  exact Kw.post_ret1 rfl rfl ⟨rfl, rfl⟩
set_option maxRecDepth 100000 in
set_option maxHeartbeats 4000000 in
theorem delete_zero (tb : Nat) (w : World) (A_tb : Kw.At w tb #[.map none, .slice none 0 0, .int .i64 0, .bool false, .int .i64 0, .bool false, .int .i64 0, .int .i64 0] 52) (n : Int) : Calls Try.prog 17 #[.pointer (some ⟨tb, 0, none⟩), .int .i64 n] w fun e w' => e = .returned (.int .i64 1) ∧ w' = w := by
  have HB : w = w := rfl
  refine Kw.enter Try.func17 rfl Try.ntmps17 rfl rfl ?_
  refine Kw.WC_seq (fun K1 hK1 => ?_)
  refine Kw.WC_region [some 4] rfl ?_
  refine Kw.WL_v rfl rfl rfl (Kw.R_assign rfl) ?_
  refine Kw.WL_nil ?_
  refine hK1 _ _ ?_; clear hK1 K1
  refine Kw.WC_seq (fun K2 hK2 => ?_)
  refine Kw.WC_region [some 6, some 7, some 8, some 5] rfl ?_
  refine Kw.WL_v rfl rfl rfl (Kw.R_move rfl) ?_
  refine Kw.WL_v rfl rfl rfl (Kw.R_move rfl) ?_
  refine Kw.WL_callc rfl rfl rfl rfl F.cl25 rfl (has_zero tb _ A_tb n) ?_; intro ww hww; rw [hww]; clear hww ww
  refine Kw.WL_v rfl rfl rfl (Kw.R_assign rfl) ?_
  refine Kw.WL_nil ?_
  refine hK2 _ _ ?_; clear hK2 K2
  refine Kw.WC_seq (fun K3 hK3 => ?_)
  refine Kw.WC_block ?_
  refine Kw.WC_seq (fun K4 hK4 => ?_)
  refine Kw.WC_region [some 10, some 11, some 9] rfl ?_
  refine Kw.WL_v rfl rfl rfl (Kw.R_move rfl) ?_
  refine Kw.WL_v rfl rfl rfl (Kw.R_nei (z := true) rfl rfl (decide_eq_false (by omega))) ?_
  refine Kw.WL_v rfl rfl rfl (Kw.R_assign rfl) ?_
  refine Kw.WL_nil ?_
  refine hK4 _ _ ?_; clear hK4 K4
  refine Kw.WC_sub (l' := [(0, .pointer (some ⟨tb, 0, none⟩)), (1, .int .i64 n), (5, .int .i64 1), (9, .bool true)]) (Kw.Sub.cons rfl (Kw.Sub.cons rfl (Kw.Sub.cons rfl (Kw.Sub.cons rfl Kw.Sub.nil)))) ?_
  refine Kw.WC_true rfl ?_
  refine Kw.WC_seq (fun K5 hK5 => ?_)
  refine Kw.WC_region [some 12, some 4] rfl ?_
  refine Kw.WL_v rfl rfl rfl (Kw.R_move rfl) ?_
  refine Kw.WL_v rfl rfl rfl (Kw.R_assign rfl) ?_
  refine Kw.WL_nil ?_
  refine hK5 _ _ ?_; clear hK5 K5
  refine Kw.WC_ret ?_
  refine Kw.QR_block ?_
  refine Kw.QR_then ?_; clear hK3 K3
  exact Kw.post_ret1 rfl rfl ⟨rfl, rfl⟩
set_option maxRecDepth 100000 in
set_option maxHeartbeats 4000000 in
theorem truncate_zero (tb : Nat) (w : World) (A_tb : Kw.At w tb #[.map none, .slice none 0 0, .int .i64 0, .bool false, .int .i64 0, .bool false, .int .i64 0, .int .i64 0] 52) (n m : Int) : Calls Try.prog 18 #[.pointer (some ⟨tb, 0, none⟩), .int .i64 n, .int .i64 m] w fun e w' => e = .returned (.int .i64 1) ∧ w' = w := by
  have HB : w = w := rfl
  refine Kw.enter Try.func18 rfl Try.ntmps18 rfl rfl ?_
  refine Kw.WC_seq (fun K1 hK1 => ?_)
  refine Kw.WC_region [some 6] rfl ?_
  refine Kw.WL_v rfl rfl rfl (Kw.R_assign rfl) ?_
  refine Kw.WL_nil ?_
  refine hK1 _ _ ?_; clear hK1 K1
  refine Kw.WC_seq (fun K2 hK2 => ?_)
  refine Kw.WC_region [some 9, some 10, some 11, some 7] rfl ?_
  refine Kw.WL_v rfl rfl rfl (Kw.R_move rfl) ?_
  refine Kw.WL_v rfl rfl rfl (Kw.R_move rfl) ?_
  refine Kw.WL_callc rfl rfl rfl rfl F.cl25 rfl (has_zero tb _ A_tb n) ?_; intro ww hww; rw [hww]; clear hww ww
  refine Kw.WL_v rfl rfl rfl (Kw.R_assign rfl) ?_
  refine Kw.WL_nil ?_
  refine hK2 _ _ ?_; clear hK2 K2
  refine Kw.WC_seq (fun K3 hK3 => ?_)
  refine Kw.WC_block ?_
  refine Kw.WC_seq (fun K4 hK4 => ?_)
  refine Kw.WC_region [some 13, some 14, some 12] rfl ?_
  refine Kw.WL_v rfl rfl rfl (Kw.R_move rfl) ?_
  refine Kw.WL_v rfl rfl rfl (Kw.R_nei (z := true) rfl rfl (decide_eq_false (by omega))) ?_
  refine Kw.WL_v rfl rfl rfl (Kw.R_assign rfl) ?_
  refine Kw.WL_nil ?_
  refine hK4 _ _ ?_; clear hK4 K4
  refine Kw.WC_sub (l' := [(0, .pointer (some ⟨tb, 0, none⟩)), (1, .int .i64 n), (2, .int .i64 m), (7, .int .i64 1), (12, .bool true)]) (Kw.Sub.cons rfl (Kw.Sub.cons rfl (Kw.Sub.cons rfl (Kw.Sub.cons rfl (Kw.Sub.cons rfl Kw.Sub.nil))))) ?_
  refine Kw.WC_true rfl ?_
  refine Kw.WC_seq (fun K5 hK5 => ?_)
  refine Kw.WC_region [some 15, some 6] rfl ?_
  refine Kw.WL_v rfl rfl rfl (Kw.R_move rfl) ?_
  refine Kw.WL_v rfl rfl rfl (Kw.R_assign rfl) ?_
  refine Kw.WL_nil ?_
  refine hK5 _ _ ?_; clear hK5 K5
  refine Kw.WC_sub (l' := [(6, .int .i64 1)]) (Kw.Sub.cons rfl Kw.Sub.nil) ?_
  refine Kw.WC_ret ?_
  refine Kw.QR_block ?_
  refine Kw.QR_then ?_; clear hK3 K3
  exact Kw.post_ret1 rfl rfl ⟨rfl, rfl⟩
set_option maxRecDepth 100000 in
set_option maxHeartbeats 4000000 in
theorem files_zero (tb : Nat) (w : World) (A_tb : Kw.At w tb #[.map none, .slice none 0 0, .int .i64 0, .bool false, .int .i64 0, .bool false, .int .i64 0, .int .i64 0] 52) : Calls Try.prog 19 #[.pointer (some ⟨tb, 0, none⟩)] w fun e w' => e = .returned (.slice none 0 0) ∧ w' = w := by
  have HB : w = w := rfl
  refine Kw.enter Try.func19 rfl Try.ntmps19 rfl rfl ?_
  refine Kw.WC_seq (fun K1 hK1 => ?_)
  refine Kw.WC_region [some 2] rfl ?_
  refine Kw.WL_v rfl rfl rfl (Kw.R_assign rfl) ?_
  refine Kw.WL_nil ?_
  refine hK1 _ _ ?_; clear hK1 K1
  refine Kw.WC_seq (fun K2 hK2 => ?_)
  refine Kw.WC_seq (fun K3 hK3 => ?_)
  refine Kw.WC_region [some 3, some 4] rfl ?_
  refine Kw.WL_v rfl rfl rfl (Kw.R_move rfl) ?_
  refine Kw.WL_callc rfl rfl rfl rfl F.cl29 rfl (none_zero tb _ A_tb) ?_; intro ww hww; rw [hww]; clear hww ww
  refine Kw.WL_nil ?_
  refine hK3 _ _ ?_; clear hK3 K3
  refine Kw.WC_true rfl ?_
  refine Kw.WC_seq (fun K4 hK4 => ?_)
  refine Kw.WC_region [some 2] rfl ?_
  refine Kw.WL_v rfl rfl rfl (Kw.R_assign rfl) ?_
  refine Kw.WL_nil ?_
  refine hK4 _ _ ?_; clear hK4 K4
  refine Kw.WC_ret ?_
  refine Kw.QR_then ?_; clear hK2 K2
  exact Kw.post_ret1 rfl rfl ⟨rfl, rfl⟩
set_option maxRecDepth 100000 in
set_option maxHeartbeats 4000000 in
theorem read_zero (tb : Nat) (w : World) (A_tb : Kw.At w tb #[.map none, .slice none 0 0, .int .i64 0, .bool false, .int .i64 0, .bool false, .int .i64 0, .int .i64 0] 52) (n m k : Int) : Calls Try.prog 21 #[.pointer (some ⟨tb, 0, none⟩), .int .i64 n, .int .i64 m, .int .i64 k] w fun e w' => e = .returned (.tuple #[.string ⟨#[]⟩, .int .i64 1]) ∧ w' = w := by
  have HB : w = w := rfl
  refine Kw.enter Try.func21 rfl Try.ntmps21 rfl rfl ?_
  refine Kw.WC_seq (fun K1 hK1 => ?_)
  refine Kw.WC_region [some 8, some 9] rfl ?_
  refine Kw.WL_v rfl rfl rfl (Kw.R_assign rfl) ?_
  refine Kw.WL_v rfl rfl rfl (Kw.R_assign rfl) ?_
  refine Kw.WL_nil ?_
  refine hK1 _ _ ?_; clear hK1 K1
  refine Kw.WC_seq (fun K2 hK2 => ?_)
  refine Kw.WC_seq (fun K3 hK3 => ?_)
  refine Kw.WC_region [some 12, some 13, some 14, some 10] rfl ?_
  refine Kw.WL_v rfl rfl rfl (Kw.R_move rfl) ?_
  refine Kw.WL_v rfl rfl rfl (Kw.R_move rfl) ?_
  refine Kw.WL_callc rfl rfl rfl rfl F.cl25 rfl (has_zero tb _ A_tb n) ?_; intro ww hww; rw [hww]; clear hww ww
  refine Kw.WL_v rfl rfl rfl (Kw.R_assign rfl) ?_
  refine Kw.WL_nil ?_
  refine hK3 _ _ ?_; clear hK3 K3
  refine Kw.WC_seq (fun K4 hK4 => ?_)
  refine Kw.WC_region [some 15, some 16] rfl ?_
  refine Kw.WL_v rfl rfl rfl (Kw.R_move rfl) ?_
  refine Kw.WL_v rfl rfl rfl (Kw.R_nei (z := true) rfl rfl (decide_eq_false (by omega))) ?_
  refine Kw.WL_nil ?_
  refine hK4 _ _ ?_; clear hK4 K4
  refine Kw.WC_sub (l' := [(0, .pointer (some ⟨tb, 0, none⟩)), (1, .int .i64 n), (2, .int .i64 m), (3, .int .i64 k), (10, .int .i64 1), (16, .bool true)]) (Kw.Sub.cons rfl (Kw.Sub.cons rfl (Kw.Sub.cons rfl (Kw.Sub.cons rfl (Kw.Sub.cons rfl (Kw.Sub.cons rfl Kw.Sub.nil)))))) ?_
  refine Kw.WC_true rfl ?_
  refine Kw.WC_seq (fun K5 hK5 => ?_)
  refine Kw.WC_region [some 17, some 8, some 9] rfl ?_
  refine Kw.WL_v rfl rfl rfl (Kw.R_move rfl) ?_
  refine Kw.WL_v rfl rfl rfl (Kw.R_assign rfl) ?_
  refine Kw.WL_v rfl rfl rfl (Kw.R_assign rfl) ?_
  refine Kw.WL_nil ?_
  refine hK5 _ _ ?_; clear hK5 K5
  refine Kw.WC_sub (l' := [(8, .string ⟨#[]⟩), (9, .int .i64 1)]) (Kw.Sub.cons rfl (Kw.Sub.cons rfl Kw.Sub.nil)) ?_
  refine Kw.WC_ret ?_
  refine Kw.QR_then ?_; clear hK2 K2
  exact Kw.post_ret2 rfl rfl rfl ⟨rfl, rfl⟩
set_option maxRecDepth 100000 in
set_option maxHeartbeats 4000000 in
theorem size_zero (tb : Nat) (w : World) (A_tb : Kw.At w tb #[.map none, .slice none 0 0, .int .i64 0, .bool false, .int .i64 0, .bool false, .int .i64 0, .int .i64 0] 52) (n : Int) : Calls Try.prog 22 #[.pointer (some ⟨tb, 0, none⟩), .int .i64 n] w fun e w' => e = .returned (.tuple #[.int .i64 0, .int .i64 1]) ∧ w' = w := by
  have HB : w = w := rfl
  refine Kw.enter Try.func22 rfl Try.ntmps22 rfl rfl ?_
  refine Kw.WC_seq (fun K1 hK1 => ?_)
  refine Kw.WC_region [some 4, some 5] rfl ?_
  refine Kw.WL_v rfl rfl rfl (Kw.R_assign rfl) ?_
  refine Kw.WL_v rfl rfl rfl (Kw.R_assign rfl) ?_
  refine Kw.WL_nil ?_
  refine hK1 _ _ ?_; clear hK1 K1
  refine Kw.WC_seq (fun K2 hK2 => ?_)
  refine Kw.WC_seq (fun K3 hK3 => ?_)
  refine Kw.WC_region [some 7, some 8, some 9, some 6] rfl ?_
  refine Kw.WL_v rfl rfl rfl (Kw.R_move rfl) ?_
  refine Kw.WL_v rfl rfl rfl (Kw.R_move rfl) ?_
  refine Kw.WL_callc rfl rfl rfl rfl F.cl25 rfl (has_zero tb _ A_tb n) ?_; intro ww hww; rw [hww]; clear hww ww
  refine Kw.WL_v rfl rfl rfl (Kw.R_assign rfl) ?_
  refine Kw.WL_nil ?_
  refine hK3 _ _ ?_; clear hK3 K3
  refine Kw.WC_seq (fun K4 hK4 => ?_)
  refine Kw.WC_region [some 10, some 11] rfl ?_
  refine Kw.WL_v rfl rfl rfl (Kw.R_move rfl) ?_
  refine Kw.WL_v rfl rfl rfl (Kw.R_nei (z := true) rfl rfl (decide_eq_false (by omega))) ?_
  refine Kw.WL_nil ?_
  refine hK4 _ _ ?_; clear hK4 K4
  refine Kw.WC_sub (l' := [(0, .pointer (some ⟨tb, 0, none⟩)), (1, .int .i64 n), (6, .int .i64 1), (11, .bool true)]) (Kw.Sub.cons rfl (Kw.Sub.cons rfl (Kw.Sub.cons rfl (Kw.Sub.cons rfl Kw.Sub.nil)))) ?_
  refine Kw.WC_true rfl ?_
  refine Kw.WC_seq (fun K5 hK5 => ?_)
  refine Kw.WC_region [some 12, some 4, some 5] rfl ?_
  refine Kw.WL_v rfl rfl rfl (Kw.R_move rfl) ?_
  refine Kw.WL_v rfl rfl rfl (Kw.R_assign rfl) ?_
  refine Kw.WL_v rfl rfl rfl (Kw.R_assign rfl) ?_
  refine Kw.WL_nil ?_
  refine hK5 _ _ ?_; clear hK5 K5
  refine Kw.WC_ret ?_
  refine Kw.QR_then ?_; clear hK2 K2
  exact Kw.post_ret2 rfl rfl rfl ⟨rfl, rfl⟩
set_option maxRecDepth 100000 in
set_option maxHeartbeats 4000000 in
theorem free_zero (tb : Nat) (w : World) (A_tb : Kw.At w tb #[.map none, .slice none 0 0, .int .i64 0, .bool false, .int .i64 0, .bool false, .int .i64 0, .int .i64 0] 52) : Calls Try.prog 23 #[.pointer (some ⟨tb, 0, none⟩)] w fun e w' => e = .returned (.int .i64 0) ∧ w' = w := by
  have HB : w = w := rfl
  refine Kw.enter Try.func23 rfl Try.ntmps23 rfl rfl ?_
  refine Kw.WC_seq (fun K1 hK1 => ?_)
  refine Kw.WC_region [some 2] rfl ?_
  refine Kw.WL_v rfl rfl rfl (Kw.R_assign rfl) ?_
  refine Kw.WL_nil ?_
  refine hK1 _ _ ?_; clear hK1 K1
  refine Kw.WC_seq (fun K2 hK2 => ?_)
  refine Kw.WC_seq (fun K3 hK3 => ?_)
  refine Kw.WC_region [some 6, some 7] rfl ?_
  refine Kw.WL_v rfl rfl rfl (Kw.R_move rfl) ?_
  refine Kw.WL_callc rfl rfl rfl rfl F.cl29 rfl (none_zero tb _ A_tb) ?_; intro ww hww; rw [hww]; clear hww ww
  refine Kw.WL_nil ?_
  refine hK3 _ _ ?_; clear hK3 K3
  refine Kw.WC_true rfl ?_
  refine Kw.WC_seq (fun K4 hK4 => ?_)
  refine Kw.WC_region [some 2] rfl ?_
  refine Kw.WL_v rfl rfl rfl (Kw.R_assign rfl) ?_
  refine Kw.WL_nil ?_
  refine hK4 _ _ ?_; clear hK4 K4
  refine Kw.WC_ret ?_
  refine Kw.QR_then ?_; clear hK2 K2
  exact Kw.post_ret1 rfl rfl ⟨rfl, rfl⟩
set_option maxRecDepth 100000 in
set_option maxHeartbeats 4000000 in
theorem starts_zero (tb : Nat) (w : World) (A_tb : Kw.At w tb #[.map none, .slice none 0 0, .int .i64 0, .bool false, .int .i64 0, .bool false, .int .i64 0, .int .i64 0] 52) : Calls Try.prog 24 #[.pointer (some ⟨tb, 0, none⟩)] w fun e w' => e = .returned (.int .i64 0) ∧ w' = w := by
  have HB : w = w := rfl
  refine Kw.enter Try.func24 rfl Try.ntmps24 rfl rfl ?_
  refine Kw.WC_seq (fun K1 hK1 => ?_)
  refine Kw.WC_region [some 2] rfl ?_
  refine Kw.WL_v rfl rfl rfl (Kw.R_assign rfl) ?_
  refine Kw.WL_nil ?_
  refine hK1 _ _ ?_; clear hK1 K1
  refine Kw.WC_seq (fun K2 hK2 => ?_)
  refine Kw.WC_seq (fun K3 hK3 => ?_)
  refine Kw.WC_region [some 3, some 4] rfl ?_
  refine Kw.WL_v rfl rfl rfl (Kw.R_move rfl) ?_
  refine Kw.WL_callc rfl rfl rfl rfl F.cl29 rfl (none_zero tb _ A_tb) ?_; intro ww hww; rw [hww]; clear hww ww
  refine Kw.WL_nil ?_
  refine hK3 _ _ ?_; clear hK3 K3
  refine Kw.WC_true rfl ?_
  refine Kw.WC_seq (fun K4 hK4 => ?_)
  refine Kw.WC_region [some 2] rfl ?_
  refine Kw.WL_v rfl rfl rfl (Kw.R_assign rfl) ?_
  refine Kw.WL_nil ?_
  refine hK4 _ _ ?_; clear hK4 K4
  refine Kw.WC_ret ?_
  refine Kw.QR_then ?_; clear hK2 K2
  exact Kw.post_ret1 rfl rfl ⟨rfl, rfl⟩
end Go.Proofs.Ytcmgeadakncgmaa.Fn
