/- The methods of timers as contracts, but Due and Copy of a table. -/
import Derived.Test.YtidoilcgdfhfiaaTk
namespace Go.Proofs.Ytidoilcgdfhfiaa.Fn
open Go Go.Proofs Go.RowKit
set_option linter.unusedVariables false
set_option linter.unusedSimpArgs false
set_option maxRecDepth 100000 in
set_option maxHeartbeats 4000000 in
theorem none_nil (w : World) : Calls Try.prog 18 #[.pointer none] w fun e w' => e = .returned (.bool true) ∧ Below w.heap.size w w' := by
  have HB : Below w.heap.size w w := Below.refl _ _
  refine Kw.enter Try.func18 rfl Try.ntmps18 rfl rfl ?_
  refine Kw.WC_seq (fun K1 hK1 => ?_)
  refine Kw.WC_region [some 2] rfl ?_
  refine Kw.WL_v rfl rfl rfl (Kw.R_assign rfl) ?_
  refine Kw.WL_nil ?_
  refine hK1 _ _ ?_; clear hK1 K1
  refine Kw.WC_seq (fun K2 hK2 => ?_)
  refine Kw.WC_region [some 3, some 4, some 5, some 6, some 7, some 8, some 9, some 10, some 11, some 2] rfl ?_
  refine Kw.WL_v rfl rfl rfl (Kw.R_move rfl) ?_
  refine Kw.WL_v rfl rfl rfl (Kw.R_eqpn rfl rfl Try.underlying25 rfl) ?_
  refine Kw.WL_v rfl rfl rfl (Kw.R_move rfl) ?_
  refine Kw.WL_off rfl rfl rfl ?_
  refine Kw.WL_off rfl rfl rfl ?_
  refine Kw.WL_off rfl rfl rfl ?_
  refine Kw.WL_off rfl rfl rfl ?_
  refine Kw.WL_off rfl rfl rfl ?_
  refine Kw.WL_v rfl rfl rfl (Kw.R_pickt rfl rfl) ?_
  refine Kw.WL_v rfl rfl rfl (Kw.R_assign rfl) ?_
  refine Kw.WL_nil ?_
  refine hK2 _ _ ?_; clear hK2 K2
  refine Kw.WC_sub (l' := [(2, .bool true)]) (Kw.Sub.cons rfl Kw.Sub.nil) ?_
  refine Kw.WC_ret ?_
  exact Kw.post_ret1 rfl rfl ⟨rfl, HB⟩
set_option maxRecDepth 100000 in
set_option maxHeartbeats 4000000 in
theorem none_zero (tb : Nat) (w : World) (A_tb : Kw.At w tb #[.map none] 52) : Calls Try.prog 18 #[.pointer (some ⟨tb, 0, none⟩)] w fun e w' => e = .returned (.bool true) ∧ Below w.heap.size w w' := by
  have HB : Below w.heap.size w w := Below.refl _ _
  refine Kw.enter Try.func18 rfl Try.ntmps18 rfl rfl ?_
  refine Kw.WC_seq (fun K1 hK1 => ?_)
  refine Kw.WC_region [some 2] rfl ?_
  refine Kw.WL_v rfl rfl rfl (Kw.R_assign rfl) ?_
  refine Kw.WL_nil ?_
  refine hK1 _ _ ?_; clear hK1 K1
  refine Kw.WC_seq (fun K2 hK2 => ?_)
  refine Kw.WC_region [some 3, some 4, some 5, some 6, some 7, some 8, some 9, some 10, some 11, some 2] rfl ?_
  refine Kw.WL_v rfl rfl rfl (Kw.R_move rfl) ?_
  refine Kw.WL_v rfl rfl rfl (Kw.R_eqpn rfl rfl Try.underlying25 rfl) ?_
  refine Kw.WL_v rfl rfl rfl (Kw.R_move rfl) ?_
  refine Kw.WL_v rfl rfl rfl (Kw.R_move rfl) ?_
  refine Kw.WL_v rfl rfl rfl (Kw.R_nilok rfl) ?_
  refine Kw.WL_v rfl rfl rfl (Kw.R_fieldAddr (o' := 0) (k := 0) rfl Try.underlying52 rfl F.sz50 rfl) ?_
  refine Kw.WL_v rfl rfl rfl (Kw.R_load1 rfl Try.underlying50 rfl A_tb rfl) ?_
  refine Kw.WL_v rfl rfl rfl (Kw.R_eqmn rfl rfl Try.underlying50 rfl) ?_
  refine Kw.WL_v rfl rfl rfl (Kw.R_pickf rfl rfl) ?_
  refine Kw.WL_v rfl rfl rfl (Kw.R_assign rfl) ?_
  refine Kw.WL_nil ?_
  refine hK2 _ _ ?_; clear hK2 K2
  refine Kw.WC_sub (l' := [(2, .bool true)]) (Kw.Sub.cons rfl Kw.Sub.nil) ?_
  refine Kw.WC_ret ?_
  exact Kw.post_ret1 rfl rfl ⟨rfl, HB⟩
set_option maxRecDepth 100000 in
set_option maxHeartbeats 4000000 in
theorem none_no (tb mb : Nat) (w : World) (A_tb : Kw.At w tb #[.map (some mb)] 52) : Calls Try.prog 18 #[.pointer (some ⟨tb, 0, none⟩)] w fun e w' => e = .returned (.bool false) ∧ Below w.heap.size w w' := by
  have HB : Below w.heap.size w w := Below.refl _ _
  refine Kw.enter Try.func18 rfl Try.ntmps18 rfl rfl ?_
  refine Kw.WC_seq (fun K1 hK1 => ?_)
  refine Kw.WC_region [some 2] rfl ?_
  refine Kw.WL_v rfl rfl rfl (Kw.R_assign rfl) ?_
  refine Kw.WL_nil ?_
  refine hK1 _ _ ?_; clear hK1 K1
  refine Kw.WC_seq (fun K2 hK2 => ?_)
  refine Kw.WC_region [some 3, some 4, some 5, some 6, some 7, some 8, some 9, some 10, some 11, some 2] rfl ?_
  refine Kw.WL_v rfl rfl rfl (Kw.R_move rfl) ?_
  refine Kw.WL_v rfl rfl rfl (Kw.R_eqpn rfl rfl Try.underlying25 rfl) ?_
  refine Kw.WL_v rfl rfl rfl (Kw.R_move rfl) ?_
  refine Kw.WL_v rfl rfl rfl (Kw.R_move rfl) ?_
  refine Kw.WL_v rfl rfl rfl (Kw.R_nilok rfl) ?_
  refine Kw.WL_v rfl rfl rfl (Kw.R_fieldAddr (o' := 0) (k := 0) rfl Try.underlying52 rfl F.sz50 rfl) ?_
  refine Kw.WL_v rfl rfl rfl (Kw.R_load1 rfl Try.underlying50 rfl A_tb rfl) ?_
  refine Kw.WL_v rfl rfl rfl (Kw.R_eqmn rfl rfl Try.underlying50 rfl) ?_
  refine Kw.WL_v rfl rfl rfl (Kw.R_pickf rfl rfl) ?_
  refine Kw.WL_v rfl rfl rfl (Kw.R_assign rfl) ?_
  refine Kw.WL_nil ?_
  refine hK2 _ _ ?_; clear hK2 K2
  refine Kw.WC_sub (l' := [(2, .bool false)]) (Kw.Sub.cons rfl Kw.Sub.nil) ?_
  refine Kw.WC_ret ?_
  exact Kw.post_ret1 rfl rfl ⟨rfl, HB⟩

set_option maxRecDepth 100000 in
set_option maxHeartbeats 4000000 in
theorem new_c (w : World) : Calls Try.prog 7 #[] w (Kw.Back fun v w' => (∃ tb mb, v = .pointer (some ⟨tb, 0, none⟩) ∧ mb < tb ∧ w.heap.size ≤ mb ∧ Kw.At w' tb #[.map (some mb)] 52 ∧ TM w' mb []) ∧ Below w.heap.size w w') := by
  have HB : Below w.heap.size w w := Below.refl _ _
  refine Kw.enter Try.func7 rfl Try.ntmps7 rfl rfl ?_
  refine Kw.WC_seq (fun K1 hK1 => ?_)
  refine Kw.WC_region [some 0] rfl ?_
  refine Kw.WL_v rfl rfl rfl (Kw.R_assign rfl) ?_
  refine Kw.WL_nil ?_
  refine hK1 _ _ ?_; clear hK1 K1
  refine Kw.WC_seq (fun K2 hK2 => ?_)
  refine Kw.WC_region [some 1, some 2, some 3, some 0] rfl ?_
  refine Kw.WL_makeMap rfl rfl ?_; intro mb w3 N_mb
  have A_mb : TM w3 mb [] := Kw.TMap.empty N_mb
  have G_mb := N_mb.ge HB (Nat.le_refl _); replace HB := N_mb.below HB (Nat.le_refl _); clear N_mb
  refine Kw.WL_v rfl rfl rfl (Kw.R_build (cs := #[.map (some mb)]) rfl (fun w => by kernel_rfl)) ?_
  refine Kw.WL_box rfl rfl rfl ?_; intro tb w4 N_tb
  have L_mb_tb : mb < tb := (by rw [N_tb.num]; exact A_mb.lt); replace A_mb := A_mb.new N_tb
  have A_tb : Kw.At w4 tb #[.map (some mb)] 52 := N_tb.at_
  have G_tb := N_tb.ge HB (Nat.le_refl _); replace HB := N_tb.below HB (Nat.le_refl _); clear N_tb
  refine Kw.WL_v rfl rfl rfl (Kw.R_assign rfl) ?_
  refine Kw.WL_nil ?_
  refine hK2 _ _ ?_; clear hK2 K2
  refine Kw.WC_ret ?_
  exact Kw.post_ret1 rfl rfl ⟨_, rfl, ⟨tb, mb, rfl, L_mb_tb, G_mb, A_tb, A_mb⟩, HB⟩

set_option maxRecDepth 100000 in
set_option maxHeartbeats 4000000 in
theorem set_c (k : Int × Int) (a : Int) (hk : okK k) (tb mb : Nat) (T : List ((Int × Int) × Int)) (w : World) (A_tb : Kw.At w tb #[.map (some mb)] 52) (A_mb : TM w mb T) (L_mb_tb : mb < tb) : Calls Try.prog 8 #[.pointer (some ⟨tb, 0, none⟩), keyV k, .int .i64 a] w fun e w' => e = .returned (.tuple #[]) ∧ Kw.At w' tb #[.map (some mb)] 52 ∧ TM w' mb (Kw.tset T k a) ∧ Kw.Mut (fun k => k = mb) w w' := by
  have HB : Kw.Mut (fun k => k = mb) w w := Kw.Mut.refl _ _
  refine Kw.enter Try.func8 rfl Try.ntmps8 rfl rfl ?_
  refine Kw.WC_seq (fun K1 hK1 => ?_)
  refine Kw.WC_region [some 4] rfl ?_
  refine Kw.WL_box rfl rfl rfl ?_; intro g4 w2 N_g4
  have L_mb_g4 : mb < g4 := (by rw [N_g4.num]; exact A_mb.lt); replace A_mb := A_mb.new N_g4
  have L_tb_g4 := N_g4.ne A_tb; replace A_tb := N_g4.keep A_tb
  have A_g4 : Kw.At w2 g4 #[.int .i64 k.1, .int .i64 k.2] 29 := N_g4.at_
  have G_g4 := HB.ge N_g4; replace HB := HB.new N_g4; clear N_g4
  refine Kw.WL_nil ?_
  refine hK1 _ _ ?_; clear hK1 K1
  refine Kw.WC_seq (fun K3 hK3 => ?_)
  refine Kw.WC_region [some 6, some 7, some 8] rfl ?_
  refine Kw.WL_v rfl rfl rfl (Kw.R_move rfl) ?_
  refine Kw.WL_callc rfl rfl rfl rfl F.cl18 rfl (none_no tb mb _ A_tb) ?_; intro w4 bw4
  replace A_mb := A_mb.call bw4
  replace A_tb := A_tb.call bw4
  replace A_g4 := A_g4.call bw4
  replace HB := HB.call bw4
  clear bw4
  refine Kw.WL_v rfl rfl rfl (Kw.R_not rfl rfl) ?_
  refine Kw.WL_nil ?_
  refine hK3 _ _ ?_; clear hK3 K3
  refine Kw.WC_true rfl ?_
  refine Kw.WC_still 6 [some 9, some 10, some 11, some 12, some 13, some 14, none] rfl (by kernel_rfl) (by kernel_rfl) ?_
  simp only [List.take_succ_cons, List.take_zero, List.drop_succ_cons, List.drop_zero]
  obtain ⟨w5, hww5⟩ : ∃ x : World, x = Go.World.drew w4 := ⟨_, rfl⟩
  rw [← hww5]
  replace A_mb : TM w5 mb T := by rw [hww5]; exact A_mb
  replace A_tb : Kw.At w5 tb #[.map (some mb)] 52 := by rw [hww5]; exact A_tb
  replace A_g4 : Kw.At w5 g4 #[.int .i64 k.1, .int .i64 k.2] 29 := by rw [hww5]; exact A_g4
  replace HB : Kw.Mut (fun k => k = mb) w w5 := by rw [hww5]; exact HB.drew
  clear hww5
  refine Kw.WS_v rfl rfl rfl (Kw.R_move rfl) ?_
  refine Kw.WS_v rfl rfl rfl (Kw.R_nilok rfl) ?_
  refine Kw.WS_v rfl rfl rfl (Kw.R_fieldAddr (o' := 0) (k := 0) rfl Try.underlying52 rfl F.sz50 rfl) ?_
  refine Kw.WS_v rfl rfl rfl (Kw.R_load1 rfl Try.underlying50 rfl A_tb rfl) ?_
  refine Kw.WS_v rfl rfl rfl (Kw.R_loadW rfl Try.underlying29 rfl (by exact F.sz29) A_g4) ?_
  refine Kw.WS_v rfl rfl rfl (Kw.R_move rfl) ?_
  refine Kw.WS_nil ?_
  refine Kw.WL_mapUpdate (a := k) (u := a) K29 rfl rfl rfl rfl Try.underlying50 A_mb hk ?_; intro w6 C_mb B_mb; clear A_mb; have A_mb := B_mb; clear B_mb
  replace A_tb := A_tb.chg C_mb (Nat.ne_of_gt L_mb_tb)
  replace A_g4 := A_g4.chg C_mb (Nat.ne_of_gt L_mb_g4)
  replace HB := HB.chg C_mb (.inl rfl)
  clear C_mb
  refine Kw.WL_nil ?_
  exact Kw.post_end0 rfl ⟨rfl, A_tb, A_mb, HB⟩

set_option maxRecDepth 100000 in
set_option maxHeartbeats 4000000 in
theorem clear_c (k : Int × Int) (hk : okK k) (tb mb : Nat) (T : List ((Int × Int) × Int)) (w : World) (A_tb : Kw.At w tb #[.map (some mb)] 52) (A_mb : TM w mb T) (L_mb_tb : mb < tb) : Calls Try.prog 11 #[.pointer (some ⟨tb, 0, none⟩), keyV k] w fun e w' => e = .returned (.tuple #[]) ∧ Kw.At w' tb #[.map (some mb)] 52 ∧ TM w' mb (Kw.tdel T k) ∧ Kw.Mut (fun k => k = mb) w w' := by
  have HB : Kw.Mut (fun k => k = mb) w w := Kw.Mut.refl _ _
  refine Kw.enter Try.func11 rfl Try.ntmps11 rfl rfl ?_
  refine Kw.WC_seq (fun K1 hK1 => ?_)
  refine Kw.WC_region [some 3] rfl ?_
  refine Kw.WL_box rfl rfl rfl ?_; intro g3 w2 N_g3
  have L_mb_g3 : mb < g3 := (by rw [N_g3.num]; exact A_mb.lt); replace A_mb := A_mb.new N_g3
  have L_tb_g3 := N_g3.ne A_tb; replace A_tb := N_g3.keep A_tb
  have A_g3 : Kw.At w2 g3 #[.int .i64 k.1, .int .i64 k.2] 29 := N_g3.at_
  have G_g3 := HB.ge N_g3; replace HB := HB.new N_g3; clear N_g3
  refine Kw.WL_nil ?_
  refine hK1 _ _ ?_; clear hK1 K1
  refine Kw.WC_seq (fun K3 hK3 => ?_)
  refine Kw.WC_region [some 4, some 5, some 6] rfl ?_
  refine Kw.WL_v rfl rfl rfl (Kw.R_move rfl) ?_
  refine Kw.WL_callc rfl rfl rfl rfl F.cl18 rfl (none_no tb mb _ A_tb) ?_; intro w4 bw4
  replace A_mb := A_mb.call bw4
  replace A_tb := A_tb.call bw4
  replace A_g3 := A_g3.call bw4
  replace HB := HB.call bw4
  clear bw4
  refine Kw.WL_v rfl rfl rfl (Kw.R_not rfl rfl) ?_
  refine Kw.WL_nil ?_
  refine hK3 _ _ ?_; clear hK3 K3
  refine Kw.WC_true rfl ?_
  refine Kw.WC_still 5 [some 7, some 8, some 9, some 10, some 11, none] rfl (by kernel_rfl) (by kernel_rfl) ?_
  simp only [List.take_succ_cons, List.take_zero, List.drop_succ_cons, List.drop_zero]
  obtain ⟨w5, hww5⟩ : ∃ x : World, x = Go.World.drew w4 := ⟨_, rfl⟩
  rw [← hww5]
  replace A_mb : TM w5 mb T := by rw [hww5]; exact A_mb
  replace A_tb : Kw.At w5 tb #[.map (some mb)] 52 := by rw [hww5]; exact A_tb
  replace A_g3 : Kw.At w5 g3 #[.int .i64 k.1, .int .i64 k.2] 29 := by rw [hww5]; exact A_g3
  replace HB : Kw.Mut (fun k => k = mb) w w5 := by rw [hww5]; exact HB.drew
  clear hww5
  refine Kw.WS_v rfl rfl rfl (Kw.R_move rfl) ?_
  refine Kw.WS_v rfl rfl rfl (Kw.R_nilok rfl) ?_
  refine Kw.WS_v rfl rfl rfl (Kw.R_fieldAddr (o' := 0) (k := 0) rfl Try.underlying52 rfl F.sz50 rfl) ?_
  refine Kw.WS_v rfl rfl rfl (Kw.R_load1 rfl Try.underlying50 rfl A_tb rfl) ?_
  refine Kw.WS_v rfl rfl rfl (Kw.R_loadW rfl Try.underlying29 rfl (by exact F.sz29) A_g3) ?_
  refine Kw.WS_nil ?_
  refine Kw.WL_delete (a := k) K29 rfl rfl rfl rfl Try.underlying50 A_mb hk ?_; intro w6 C_mb B_mb; clear A_mb; have A_mb := B_mb; clear B_mb
  replace A_tb := A_tb.chg C_mb (Nat.ne_of_gt L_mb_tb)
  replace A_g3 := A_g3.chg C_mb (Nat.ne_of_gt L_mb_g3)
  replace HB := HB.chg C_mb (.inl rfl)
  clear C_mb
  refine Kw.WL_nil ?_
  exact Kw.post_end0 rfl ⟨rfl, A_tb, A_mb, HB⟩

set_option maxRecDepth 100000 in
set_option maxHeartbeats 4000000 in
theorem at_c (k : Int × Int) (hk : okK k) (u : Int) (f : Bool) (tb mb : Nat) (T : List ((Int × Int) × Int)) (w : World) (A_tb : Kw.At w tb #[.map (some mb)] 52) (A_mb : TM w mb T) (L_mb_tb : mb < tb) (hg : (match Kw.tget T k with | some u => (u, true) | none => (0, false)) = (u, f)) : Calls Try.prog 10 #[.pointer (some ⟨tb, 0, none⟩), keyV k] w fun e w' => e = .returned (.tuple #[.int .i64 u, .bool f]) ∧ Below w.heap.size w w' := by
  have HB : Below w.heap.size w w := Below.refl _ _
  refine Kw.enter Try.func10 rfl Try.ntmps10 rfl rfl ?_
  refine Kw.WC_seq (fun K1 hK1 => ?_)
  refine Kw.WC_region [some 3, some 4, some 5] rfl ?_
  refine Kw.WL_box rfl rfl rfl ?_; intro g3 w2 N_g3
  have L_mb_g3 : mb < g3 := (by rw [N_g3.num]; exact A_mb.lt); replace A_mb := A_mb.new N_g3
  have L_tb_g3 := N_g3.ne A_tb; replace A_tb := N_g3.keep A_tb
  have A_g3 : Kw.At w2 g3 #[.int .i64 k.1, .int .i64 k.2] 29 := N_g3.at_
  have G_g3 := N_g3.ge HB (Nat.le_refl _); replace HB := N_g3.below HB (Nat.le_refl _); clear N_g3
  refine Kw.WL_v rfl rfl rfl (Kw.R_assign rfl) ?_
  refine Kw.WL_v rfl rfl rfl (Kw.R_assign rfl) ?_
  refine Kw.WL_nil ?_
  refine hK1 _ _ ?_; clear hK1 K1
  refine Kw.WC_seq (fun K3 hK3 => ?_)
  refine Kw.WC_seq (fun K4 hK4 => ?_)
  refine Kw.WC_region [some 8, some 9] rfl ?_
  refine Kw.WL_v rfl rfl rfl (Kw.R_move rfl) ?_
  refine Kw.WL_callc rfl rfl rfl rfl F.cl18 rfl (none_no tb mb _ A_tb) ?_; intro w5 bw5
  replace A_mb := A_mb.call bw5
  replace A_tb := A_tb.call bw5
  replace A_g3 := A_g3.call bw5
  replace HB := Kw.Below.then HB (Nat.le_refl _) bw5
  clear bw5
  refine Kw.WL_nil ?_
  refine hK4 _ _ ?_; clear hK4 K4
  refine Kw.WC_false rfl ?_
  refine Kw.WC_skip ?_
  refine hK3 _ _ ?_; clear hK3 K3
  refine Kw.WC_seq (fun K6 hK6 => ?_)
  refine Kw.WC_still 10 [some 11, some 12, some 13, some 14, some 15, some 16, some 10, some 17, some 18, some 6, some 7] rfl (by kernel_rfl) (by kernel_rfl) ?_
  simp only [List.take_succ_cons, List.take_zero, List.drop_succ_cons, List.drop_zero]
  obtain ⟨w7, hww7⟩ : ∃ x : World, x = Go.World.drew w5 := ⟨_, rfl⟩
  rw [← hww7]
  replace A_mb : TM w7 mb T := by rw [hww7]; exact A_mb
  replace A_tb : Kw.At w7 tb #[.map (some mb)] 52 := by rw [hww7]; exact A_tb
  replace A_g3 : Kw.At w7 g3 #[.int .i64 k.1, .int .i64 k.2] 29 := by rw [hww7]; exact A_g3
  replace HB : Below w.heap.size w w7 := by rw [hww7]; exact HB.drew
  clear hww7
  refine Kw.WS_v rfl rfl rfl (Kw.R_move rfl) ?_
  refine Kw.WS_v rfl rfl rfl (Kw.R_nilok rfl) ?_
  refine Kw.WS_v rfl rfl rfl (Kw.R_fieldAddr (o' := 0) (k := 0) rfl Try.underlying52 rfl F.sz50 rfl) ?_
  refine Kw.WS_v rfl rfl rfl (Kw.R_load1 rfl Try.underlying50 rfl A_tb rfl) ?_
  refine Kw.WS_v rfl rfl rfl (Kw.R_loadW rfl Try.underlying29 rfl (by exact F.sz29) A_g3) ?_
  refine Kw.WS_v rfl rfl rfl (Kw.R_lookup2 (v := .tuple #[.int .i64 u, .bool f]) K29 rfl rfl Try.underlying50 F.ze3 A_mb (a := k) hk (by revert hg; cases Kw.tget T k <;> intro hg <;> cases hg <;> rfl)) ?_
  refine Kw.WS_v rfl rfl rfl (Kw.R_move rfl) ?_
  refine Kw.WS_v rfl rfl rfl (Kw.R_extract (v := .int .i64 u) rfl rfl) ?_
  refine Kw.WS_v rfl rfl rfl (Kw.R_extract (v := .bool f) rfl rfl) ?_
  refine Kw.WS_v rfl rfl rfl (Kw.R_assign rfl) ?_
  refine Kw.WS_nil ?_
  refine Kw.WL_v rfl rfl rfl (Kw.R_assign rfl) ?_
  refine Kw.WL_nil ?_
  refine hK6 _ _ ?_; clear hK6 K6
  refine Kw.WC_sub (l' := [(6, .int .i64 u), (7, .bool f)]) (Kw.Sub.cons rfl (Kw.Sub.cons rfl Kw.Sub.nil)) ?_
  refine Kw.WC_seq (fun K8 hK8 => ?_)
  refine Kw.WC_region [some 19, some 20, some 4, some 5] rfl ?_
  refine Kw.WL_v rfl rfl rfl (Kw.R_move rfl) ?_
  refine Kw.WL_v rfl rfl rfl (Kw.R_move rfl) ?_
  refine Kw.WL_v rfl rfl rfl (Kw.R_assign rfl) ?_
  refine Kw.WL_v rfl rfl rfl (Kw.R_assign rfl) ?_
  refine Kw.WL_nil ?_
  refine hK8 _ _ ?_; clear hK8 K8
  refine Kw.WC_ret ?_
  exact Kw.post_ret2 rfl rfl rfl ⟨rfl, HB⟩

set_option maxRecDepth 100000 in
set_option maxHeartbeats 4000000 in
theorem set_nil (k : Int × Int) (a : Int) (w : World) : Calls Try.prog 8 #[.pointer none, keyV k, .int .i64 a] w fun e w' => e = .returned (.tuple #[]) ∧ Below w.heap.size w w' := by
  have HB : Below w.heap.size w w := Below.refl _ _
  refine Kw.enter Try.func8 rfl Try.ntmps8 rfl rfl ?_
  refine Kw.WC_seq (fun K1 hK1 => ?_)
  refine Kw.WC_region [some 4] rfl ?_
  refine Kw.WL_box rfl rfl rfl ?_; intro g4 w2 N_g4
  have A_g4 : Kw.At w2 g4 #[.int .i64 k.1, .int .i64 k.2] 29 := N_g4.at_
  have G_g4 := N_g4.ge HB (Nat.le_refl _); replace HB := N_g4.below HB (Nat.le_refl _); clear N_g4
  refine Kw.WL_nil ?_
  refine hK1 _ _ ?_; clear hK1 K1
  refine Kw.WC_seq (fun K3 hK3 => ?_)
  refine Kw.WC_region [some 6, some 7, some 8] rfl ?_
  refine Kw.WL_v rfl rfl rfl (Kw.R_move rfl) ?_
  refine Kw.WL_callc rfl rfl rfl rfl F.cl18 rfl (none_nil _) ?_; intro w4 bw4
  replace A_g4 := A_g4.call bw4
  replace HB := Kw.Below.then HB (Nat.le_refl _) bw4
  clear bw4
  refine Kw.WL_v rfl rfl rfl (Kw.R_not rfl rfl) ?_
  refine Kw.WL_nil ?_
  refine hK3 _ _ ?_; clear hK3 K3
  refine Kw.WC_false rfl ?_
  refine Kw.WC_skip ?_
  exact Kw.post_end0 rfl ⟨rfl, HB⟩
set_option maxRecDepth 100000 in
set_option maxHeartbeats 4000000 in
theorem clear_nil (k : Int × Int) (w : World) : Calls Try.prog 11 #[.pointer none, keyV k] w fun e w' => e = .returned (.tuple #[]) ∧ Below w.heap.size w w' := by
  have HB : Below w.heap.size w w := Below.refl _ _
  refine Kw.enter Try.func11 rfl Try.ntmps11 rfl rfl ?_
  refine Kw.WC_seq (fun K1 hK1 => ?_)
  refine Kw.WC_region [some 3] rfl ?_
  refine Kw.WL_box rfl rfl rfl ?_; intro g3 w2 N_g3
  have A_g3 : Kw.At w2 g3 #[.int .i64 k.1, .int .i64 k.2] 29 := N_g3.at_
  have G_g3 := N_g3.ge HB (Nat.le_refl _); replace HB := N_g3.below HB (Nat.le_refl _); clear N_g3
  refine Kw.WL_nil ?_
  refine hK1 _ _ ?_; clear hK1 K1
  refine Kw.WC_seq (fun K3 hK3 => ?_)
  refine Kw.WC_region [some 4, some 5, some 6] rfl ?_
  refine Kw.WL_v rfl rfl rfl (Kw.R_move rfl) ?_
  refine Kw.WL_callc rfl rfl rfl rfl F.cl18 rfl (none_nil _) ?_; intro w4 bw4
  replace A_g3 := A_g3.call bw4
  replace HB := Kw.Below.then HB (Nat.le_refl _) bw4
  clear bw4
  refine Kw.WL_v rfl rfl rfl (Kw.R_not rfl rfl) ?_
  refine Kw.WL_nil ?_
  refine hK3 _ _ ?_; clear hK3 K3
  refine Kw.WC_false rfl ?_
  refine Kw.WC_skip ?_
  exact Kw.post_end0 rfl ⟨rfl, HB⟩
set_option maxRecDepth 100000 in
set_option maxHeartbeats 4000000 in
theorem at_nil (k : Int × Int) (w : World) : Calls Try.prog 10 #[.pointer none, keyV k] w fun e w' => e = .returned (.tuple #[.int .i64 0, .bool false]) ∧ Below w.heap.size w w' := by
  have HB : Below w.heap.size w w := Below.refl _ _
  refine Kw.enter Try.func10 rfl Try.ntmps10 rfl rfl ?_
  refine Kw.WC_seq (fun K1 hK1 => ?_)
  refine Kw.WC_region [some 3, some 4, some 5] rfl ?_
  refine Kw.WL_box rfl rfl rfl ?_; intro g3 w2 N_g3
  have A_g3 : Kw.At w2 g3 #[.int .i64 k.1, .int .i64 k.2] 29 := N_g3.at_
  have G_g3 := N_g3.ge HB (Nat.le_refl _); replace HB := N_g3.below HB (Nat.le_refl _); clear N_g3
  refine Kw.WL_v rfl rfl rfl (Kw.R_assign rfl) ?_
  refine Kw.WL_v rfl rfl rfl (Kw.R_assign rfl) ?_
  refine Kw.WL_nil ?_
  refine hK1 _ _ ?_; clear hK1 K1
  refine Kw.WC_seq (fun K3 hK3 => ?_)
  refine Kw.WC_seq (fun K4 hK4 => ?_)
  refine Kw.WC_region [some 8, some 9] rfl ?_
  refine Kw.WL_v rfl rfl rfl (Kw.R_move rfl) ?_
  refine Kw.WL_callc rfl rfl rfl rfl F.cl18 rfl (none_nil _) ?_; intro w5 bw5
  replace A_g3 := A_g3.call bw5
  replace HB := Kw.Below.then HB (Nat.le_refl _) bw5
  clear bw5
  refine Kw.WL_nil ?_
  refine hK4 _ _ ?_; clear hK4 K4
  refine Kw.WC_true rfl ?_
  refine Kw.WC_seq (fun K6 hK6 => ?_)
  refine Kw.WC_region [some 4, some 5] rfl ?_
  refine Kw.WL_v rfl rfl rfl (Kw.R_assign rfl) ?_
  refine Kw.WL_v rfl rfl rfl (Kw.R_assign rfl) ?_
  refine Kw.WL_nil ?_
  refine hK6 _ _ ?_; clear hK6 K6
  refine Kw.WC_ret ?_
  refine Kw.QR_then ?_; clear hK3 K3
  exact Kw.post_ret2 rfl rfl rfl ⟨rfl, HB⟩
set_option maxRecDepth 100000 in
set_option maxHeartbeats 4000000 in
theorem due_nil (a : Int) (w : World) : Calls Try.prog 9 #[.pointer none, .int .i64 a] w fun e w' => e = .returned (.slice none 0 0) ∧ Below w.heap.size w w' := by
  have HB : Below w.heap.size w w := Below.refl _ _
  refine Kw.enter Try.func9 rfl Try.ntmps9 rfl rfl ?_
  refine Kw.WC_seq (fun K1 hK1 => ?_)
  refine Kw.WC_region [some 2, some 4] rfl ?_
  refine Kw.WL_box rfl rfl rfl ?_; intro g2 w2 N_g2
  have A_g2 : Kw.At w2 g2 #[.pointer none] 25 := N_g2.at_
  have G_g2 := N_g2.ge HB (Nat.le_refl _); replace HB := N_g2.below HB (Nat.le_refl _); clear N_g2
  refine Kw.WL_v rfl rfl rfl (Kw.R_assign rfl) ?_
  refine Kw.WL_nil ?_
  refine hK1 _ _ ?_; clear hK1 K1
  refine Kw.WC_seq (fun K3 hK3 => ?_)
  refine Kw.WC_seq (fun K4 hK4 => ?_)
  refine Kw.WC_region [some 10, some 11] rfl ?_
  refine Kw.WL_v rfl rfl rfl (Kw.R_load1 rfl Try.underlying25 rfl A_g2 rfl) ?_
  refine Kw.WL_callc rfl rfl rfl rfl F.cl18 rfl (none_nil _) ?_; intro w5 bw5
  replace A_g2 := A_g2.call bw5
  replace HB := Kw.Below.then HB (Nat.le_refl _) bw5
  clear bw5
  refine Kw.WL_nil ?_
  refine hK4 _ _ ?_; clear hK4 K4
  refine Kw.WC_true rfl ?_
  refine Kw.WC_seq (fun K6 hK6 => ?_)
  refine Kw.WC_region [some 4] rfl ?_
  refine Kw.WL_v rfl rfl rfl (Kw.R_assign rfl) ?_
  refine Kw.WL_nil ?_
  refine hK6 _ _ ?_; clear hK6 K6
  refine Kw.WC_ret ?_
  refine Kw.QR_then ?_; clear hK3 K3
  exact Kw.post_ret1 rfl rfl ⟨rfl, HB⟩
set_option maxRecDepth 100000 in
set_option maxHeartbeats 4000000 in
theorem copy_nil (w : World) : Calls Try.prog 15 #[.pointer none] w fun e w' => e = .returned (.pointer none) ∧ Below w.heap.size w w' := by
  have HB : Below w.heap.size w w := Below.refl _ _
  refine Kw.enter Try.func15 rfl Try.ntmps15 rfl rfl ?_
  refine Kw.WC_seq (fun K1 hK1 => ?_)
  refine Kw.WC_region [some 2] rfl ?_
  refine Kw.WL_v rfl rfl rfl (Kw.R_assign rfl) ?_
  refine Kw.WL_nil ?_
  refine hK1 _ _ ?_; clear hK1 K1
  refine Kw.WC_seq (fun K2 hK2 => ?_)
  refine Kw.WC_seq (fun K3 hK3 => ?_)
  refine Kw.WC_region [some 3, some 4] rfl ?_
  refine Kw.WL_v rfl rfl rfl (Kw.R_move rfl) ?_
  refine Kw.WL_callc rfl rfl rfl rfl F.cl18 rfl (none_nil _) ?_; intro w4 bw4
  replace HB := Kw.Below.then HB (Nat.le_refl _) bw4
  clear bw4
  refine Kw.WL_nil ?_
  refine hK3 _ _ ?_; clear hK3 K3
  refine Kw.WC_true rfl ?_
  refine Kw.WC_seq (fun K5 hK5 => ?_)
  refine Kw.WC_region [some 2] rfl ?_
  refine Kw.WL_v rfl rfl rfl (Kw.R_assign rfl) ?_
  refine Kw.WL_nil ?_
  refine hK5 _ _ ?_; clear hK5 K5
  refine Kw.WC_ret ?_
  refine Kw.QR_then ?_; clear hK2 K2
  exact Kw.post_ret1 rfl rfl ⟨rfl, HB⟩
set_option maxRecDepth 100000 in
set_option maxHeartbeats 4000000 in
theorem set_zero (k : Int × Int) (a : Int) (w : World) (tb : Nat) (A_tb : Kw.At w tb #[.map none] 52) : Calls Try.prog 8 #[.pointer (some ⟨tb, 0, none⟩), keyV k, .int .i64 a] w fun e w' => e = .returned (.tuple #[]) ∧ Below w.heap.size w w' := by
  have HB : Below w.heap.size w w := Below.refl _ _
  refine Kw.enter Try.func8 rfl Try.ntmps8 rfl rfl ?_
  refine Kw.WC_seq (fun K1 hK1 => ?_)
  refine Kw.WC_region [some 4] rfl ?_
  refine Kw.WL_box rfl rfl rfl ?_; intro g4 w2 N_g4
  have L_tb_g4 := N_g4.ne A_tb; replace A_tb := N_g4.keep A_tb
  have A_g4 : Kw.At w2 g4 #[.int .i64 k.1, .int .i64 k.2] 29 := N_g4.at_
  have G_g4 := N_g4.ge HB (Nat.le_refl _); replace HB := N_g4.below HB (Nat.le_refl _); clear N_g4
  refine Kw.WL_nil ?_
  refine hK1 _ _ ?_; clear hK1 K1
  refine Kw.WC_seq (fun K3 hK3 => ?_)
  refine Kw.WC_region [some 6, some 7, some 8] rfl ?_
  refine Kw.WL_v rfl rfl rfl (Kw.R_move rfl) ?_
  refine Kw.WL_callc rfl rfl rfl rfl F.cl18 rfl (none_zero tb _ A_tb) ?_; intro w4 bw4
  replace A_tb := A_tb.call bw4
  replace A_g4 := A_g4.call bw4
  replace HB := Kw.Below.then HB (Nat.le_refl _) bw4
  clear bw4
  refine Kw.WL_v rfl rfl rfl (Kw.R_not rfl rfl) ?_
  refine Kw.WL_nil ?_
  refine hK3 _ _ ?_; clear hK3 K3
  refine Kw.WC_false rfl ?_
  refine Kw.WC_skip ?_
  exact Kw.post_end0 rfl ⟨rfl, HB⟩
set_option maxRecDepth 100000 in
set_option maxHeartbeats 4000000 in
theorem clear_zero (k : Int × Int) (w : World) (tb : Nat) (A_tb : Kw.At w tb #[.map none] 52) : Calls Try.prog 11 #[.pointer (some ⟨tb, 0, none⟩), keyV k] w fun e w' => e = .returned (.tuple #[]) ∧ Below w.heap.size w w' := by
  have HB : Below w.heap.size w w := Below.refl _ _
  refine Kw.enter Try.func11 rfl Try.ntmps11 rfl rfl ?_
  refine Kw.WC_seq (fun K1 hK1 => ?_)
  refine Kw.WC_region [some 3] rfl ?_
  refine Kw.WL_box rfl rfl rfl ?_; intro g3 w2 N_g3
  have L_tb_g3 := N_g3.ne A_tb; replace A_tb := N_g3.keep A_tb
  have A_g3 : Kw.At w2 g3 #[.int .i64 k.1, .int .i64 k.2] 29 := N_g3.at_
  have G_g3 := N_g3.ge HB (Nat.le_refl _); replace HB := N_g3.below HB (Nat.le_refl _); clear N_g3
  refine Kw.WL_nil ?_
  refine hK1 _ _ ?_; clear hK1 K1
  refine Kw.WC_seq (fun K3 hK3 => ?_)
  refine Kw.WC_region [some 4, some 5, some 6] rfl ?_
  refine Kw.WL_v rfl rfl rfl (Kw.R_move rfl) ?_
  refine Kw.WL_callc rfl rfl rfl rfl F.cl18 rfl (none_zero tb _ A_tb) ?_; intro w4 bw4
  replace A_tb := A_tb.call bw4
  replace A_g3 := A_g3.call bw4
  replace HB := Kw.Below.then HB (Nat.le_refl _) bw4
  clear bw4
  refine Kw.WL_v rfl rfl rfl (Kw.R_not rfl rfl) ?_
  refine Kw.WL_nil ?_
  refine hK3 _ _ ?_; clear hK3 K3
  refine Kw.WC_false rfl ?_
  refine Kw.WC_skip ?_
  exact Kw.post_end0 rfl ⟨rfl, HB⟩
set_option maxRecDepth 100000 in
set_option maxHeartbeats 4000000 in
theorem at_zero (k : Int × Int) (w : World) (tb : Nat) (A_tb : Kw.At w tb #[.map none] 52) : Calls Try.prog 10 #[.pointer (some ⟨tb, 0, none⟩), keyV k] w fun e w' => e = .returned (.tuple #[.int .i64 0, .bool false]) ∧ Below w.heap.size w w' := by
  have HB : Below w.heap.size w w := Below.refl _ _
  refine Kw.enter Try.func10 rfl Try.ntmps10 rfl rfl ?_
  refine Kw.WC_seq (fun K1 hK1 => ?_)
  refine Kw.WC_region [some 3, some 4, some 5] rfl ?_
  refine Kw.WL_box rfl rfl rfl ?_; intro g3 w2 N_g3
  have L_tb_g3 := N_g3.ne A_tb; replace A_tb := N_g3.keep A_tb
  have A_g3 : Kw.At w2 g3 #[.int .i64 k.1, .int .i64 k.2] 29 := N_g3.at_
  have G_g3 := N_g3.ge HB (Nat.le_refl _); replace HB := N_g3.below HB (Nat.le_refl _); clear N_g3
  refine Kw.WL_v rfl rfl rfl (Kw.R_assign rfl) ?_
  refine Kw.WL_v rfl rfl rfl (Kw.R_assign rfl) ?_
  refine Kw.WL_nil ?_
  refine hK1 _ _ ?_; clear hK1 K1
  refine Kw.WC_seq (fun K3 hK3 => ?_)
  refine Kw.WC_seq (fun K4 hK4 => ?_)
  refine Kw.WC_region [some 8, some 9] rfl ?_
  refine Kw.WL_v rfl rfl rfl (Kw.R_move rfl) ?_
  refine Kw.WL_callc rfl rfl rfl rfl F.cl18 rfl (none_zero tb _ A_tb) ?_; intro w5 bw5
  replace A_tb := A_tb.call bw5
  replace A_g3 := A_g3.call bw5
  replace HB := Kw.Below.then HB (Nat.le_refl _) bw5
  clear bw5
  refine Kw.WL_nil ?_
  refine hK4 _ _ ?_; clear hK4 K4
  refine Kw.WC_true rfl ?_
  refine Kw.WC_seq (fun K6 hK6 => ?_)
  refine Kw.WC_region [some 4, some 5] rfl ?_
  refine Kw.WL_v rfl rfl rfl (Kw.R_assign rfl) ?_
  refine Kw.WL_v rfl rfl rfl (Kw.R_assign rfl) ?_
  refine Kw.WL_nil ?_
  refine hK6 _ _ ?_; clear hK6 K6
  refine Kw.WC_ret ?_
  refine Kw.QR_then ?_; clear hK3 K3
  exact Kw.post_ret2 rfl rfl rfl ⟨rfl, HB⟩
set_option maxRecDepth 100000 in
set_option maxHeartbeats 4000000 in
theorem due_zero (a : Int) (w : World) (tb : Nat) (A_tb : Kw.At w tb #[.map none] 52) : Calls Try.prog 9 #[.pointer (some ⟨tb, 0, none⟩), .int .i64 a] w fun e w' => e = .returned (.slice none 0 0) ∧ Below w.heap.size w w' := by
  have HB : Below w.heap.size w w := Below.refl _ _
  refine Kw.enter Try.func9 rfl Try.ntmps9 rfl rfl ?_
  refine Kw.WC_seq (fun K1 hK1 => ?_)
  refine Kw.WC_region [some 2, some 4] rfl ?_
  refine Kw.WL_box rfl rfl rfl ?_; intro g2 w2 N_g2
  have L_tb_g2 := N_g2.ne A_tb; replace A_tb := N_g2.keep A_tb
  have A_g2 : Kw.At w2 g2 #[.pointer (some ⟨tb, 0, none⟩)] 25 := N_g2.at_
  have G_g2 := N_g2.ge HB (Nat.le_refl _); replace HB := N_g2.below HB (Nat.le_refl _); clear N_g2
  refine Kw.WL_v rfl rfl rfl (Kw.R_assign rfl) ?_
  refine Kw.WL_nil ?_
  refine hK1 _ _ ?_; clear hK1 K1
  refine Kw.WC_seq (fun K3 hK3 => ?_)
  refine Kw.WC_seq (fun K4 hK4 => ?_)
  refine Kw.WC_region [some 10, some 11] rfl ?_
  refine Kw.WL_v rfl rfl rfl (Kw.R_load1 rfl Try.underlying25 rfl A_g2 rfl) ?_
  refine Kw.WL_callc rfl rfl rfl rfl F.cl18 rfl (none_zero tb _ A_tb) ?_; intro w5 bw5
  replace A_tb := A_tb.call bw5
  replace A_g2 := A_g2.call bw5
  replace HB := Kw.Below.then HB (Nat.le_refl _) bw5
  clear bw5
  refine Kw.WL_nil ?_
  refine hK4 _ _ ?_; clear hK4 K4
  refine Kw.WC_true rfl ?_
  refine Kw.WC_seq (fun K6 hK6 => ?_)
  refine Kw.WC_region [some 4] rfl ?_
  refine Kw.WL_v rfl rfl rfl (Kw.R_assign rfl) ?_
  refine Kw.WL_nil ?_
  refine hK6 _ _ ?_; clear hK6 K6
  refine Kw.WC_ret ?_
  refine Kw.QR_then ?_; clear hK3 K3
  exact Kw.post_ret1 rfl rfl ⟨rfl, HB⟩
set_option maxRecDepth 100000 in
set_option maxHeartbeats 4000000 in
theorem copy_zero (w : World) (tb : Nat) (A_tb : Kw.At w tb #[.map none] 52) : Calls Try.prog 15 #[.pointer (some ⟨tb, 0, none⟩)] w fun e w' => e = .returned (.pointer none) ∧ Below w.heap.size w w' := by
  have HB : Below w.heap.size w w := Below.refl _ _
  refine Kw.enter Try.func15 rfl Try.ntmps15 rfl rfl ?_
  refine Kw.WC_seq (fun K1 hK1 => ?_)
  refine Kw.WC_region [some 2] rfl ?_
  refine Kw.WL_v rfl rfl rfl (Kw.R_assign rfl) ?_
  refine Kw.WL_nil ?_
  refine hK1 _ _ ?_; clear hK1 K1
  refine Kw.WC_seq (fun K2 hK2 => ?_)
  refine Kw.WC_seq (fun K3 hK3 => ?_)
  refine Kw.WC_region [some 3, some 4] rfl ?_
  refine Kw.WL_v rfl rfl rfl (Kw.R_move rfl) ?_
  refine Kw.WL_callc rfl rfl rfl rfl F.cl18 rfl (none_zero tb _ A_tb) ?_; intro w4 bw4
  replace A_tb := A_tb.call bw4
  replace HB := Kw.Below.then HB (Nat.le_refl _) bw4
  clear bw4
  refine Kw.WL_nil ?_
  refine hK3 _ _ ?_; clear hK3 K3
  refine Kw.WC_true rfl ?_
  refine Kw.WC_seq (fun K5 hK5 => ?_)
  refine Kw.WC_region [some 2] rfl ?_
  refine Kw.WL_v rfl rfl rfl (Kw.R_assign rfl) ?_
  refine Kw.WL_nil ?_
  refine hK5 _ _ ?_; clear hK5 K5
  refine Kw.WC_ret ?_
  refine Kw.QR_then ?_; clear hK2 K2
  exact Kw.post_ret1 rfl rfl ⟨rfl, HB⟩
end Go.Proofs.Ytidoilcgdfhfiaa.Fn
