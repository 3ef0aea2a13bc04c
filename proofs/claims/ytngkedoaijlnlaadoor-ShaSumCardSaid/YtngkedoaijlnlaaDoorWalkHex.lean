/- ShaHex answers true. -/
import Derived.Test.YtngkedoaijlnlaaDoorRefSha
namespace Go.Proofs.YtngkedoaijlnlaaDoor.Fn
open Go Go.Proofs Go.RowKit Go.Proofs.YtngkedoaijlnlaaDoorW.PrintWords Go.Proofs.YtngkedoaijlnlaaDoorW.PrintLast Go.Proofs.YtngkedoaijlnlaaDoorW.PrintMore
set_option linter.unusedVariables false
set_option linter.unusedSimpArgs false
theorem eqType24 : Tryd.prog.eqGuardType Tryd.prog.depth 24 = false := by kernel_rfl
theorem guard24 (op : BinOp) (x y : Operand) (a b : Array Value) (w : World) : (eqGuard op 24 x y (.agg a) (.agg b)).run Tryd.prog w = .ok () w := by
  unfold eqGuard
  cases op <;> simp [eqType24, Result.andThen, go_sem, Sem.run, program]
section
variable {l : Kw.Env} {w : World} {D : Option Tmp} {T : TypeId} {S : String} {F : Array Edge} {g : Option (Nat × Bool)}
theorem R_eqh {x y : Operand} {a b : List Int} {z : Bool} (hx : Kw.ev l x = some (.agg (cells8 a))) (hy : Kw.ev l y = some (.agg (cells8 b))) (la : a.length = 32) (lb : b.length = 32) (ha : Bytes a) (hb : Bytes b)
    (he : decide (a = b) = z) : Kw.Runs Tryd.prog l ⟨D, .binOp .eql 24 x y 24, T, S, F, g⟩ w (.bool z) w :=
  Kw.run_binq hx hy (guard24 _ _ _ _ _ _) (by
    have := equal_bytes a b la lb ha hb w
    rw [he] at this
    simp only [binOp, Op.equal, Op.maxDepth, Sem.run_bind, this, Result.andThen_ok]; rfl)
theorem R_neh {x y : Operand} {a b : List Int} {z : Bool} (hx : Kw.ev l x = some (.agg (cells8 a))) (hy : Kw.ev l y = some (.agg (cells8 b))) (la : a.length = 32) (lb : b.length = 32) (ha : Bytes a) (hb : Bytes b)
    (he : decide (a = b) = !z) : Kw.Runs Tryd.prog l ⟨D, .binOp .neq 24 x y 24, T, S, F, g⟩ w (.bool z) w :=
  Kw.run_binq hx hy (guard24 _ _ _ _ _ _) (by
    have := equal_bytes a b la lb ha hb w
    rw [he] at this
    simp only [binOp, Op.equal, Op.maxDepth, Sem.run_bind, this, Result.andThen_ok]
    cases z <;> rfl)
end
theorem parse_bytes (s : ByteArray) : Bytes ((parseV s).getD zeros32) := by
  cases e : parseV s with
  | none => exact bytes_zeros
  | some b => exact (parse_back s b e).2.2

set_option maxRecDepth 100000 in
set_option maxHeartbeats 4000000 in
theorem ShaHex_c (h : List Int) (hl : h.length = 32) (hn : Bytes h) (s : ByteArray) (w : World) (h0 : Tab w 0 H8) (h1 : Tab w 1 K64) : Calls Tryd.prog 4 #[.agg (cells8 h), .string s] w fun e w' => e = .returned (.bool true) ∧ Below w.heap.size w w' := by
  have HB : Below w.heap.size w w := Below.refl _ _
  have Ha : ∀ (w' : World), Below w.heap.size w w' → Calls Tryd.prog 10 #[] w' fun e w2 => e = .returned (.bool true) ∧ Below w'.heap.size w' w2 := fun w' b => hashed_c w' (tab_below h0 b) (tab_below h1 b)
  clear h0 h1
  refine Kw.enter Tryd.func4 rfl Tryd.ntmps4 rfl rfl ?_
  refine Kw.WC_seq (fun K1 hK1 => ?_)
  refine Kw.WC_region [some 2, some 4] rfl ?_
  refine Kw.WL_box rfl rfl rfl ?_; intro g2 w2 N_g2
  have A_g2 : Kw.At w2 g2 (cells8 h) 24 := N_g2.at_
  have G_g2 := N_g2.ge HB (Nat.le_refl _); replace HB := N_g2.below HB (Nat.le_refl _); clear N_g2
  refine Kw.WL_v rfl rfl rfl (Kw.R_assign rfl) ?_
  refine Kw.WL_nil ?_
  refine hK1 _ _ ?_; clear hK1 K1
  refine Kw.WC_seq (fun K3 hK3 => ?_)
  refine Kw.WC_seq (fun K4 hK4 => ?_)
  refine Kw.WC_region [some 9, some 10, some 11] rfl ?_
  refine Kw.WL_v rfl rfl rfl (Kw.R_move rfl) ?_
  refine Kw.WL_v rfl rfl rfl (Kw.R_lens Tryd.underlying9 rfl) ?_
  by_cases c5 : (200 : Int) < (s.size : Int)
  ·
    refine Kw.WL_v rfl rfl rfl (Kw.R_gtr (z := true) rfl rfl (decide_eq_true c5)) ?_
    refine Kw.WL_nil ?_
    refine hK4 _ _ ?_; clear hK4 K4
    refine Kw.WC_true rfl ?_
    refine Kw.WC_seq (fun K6 hK6 => ?_)
    refine Kw.WC_region [some 12, some 4] rfl ?_
    refine Kw.WL_callc rfl rfl rfl rfl F.cl10 rfl (Ha _ HB) ?_; intro w7 bw7
    replace A_g2 := A_g2.call bw7
    replace HB := Kw.Below.then HB (Nat.le_refl _) bw7
    clear bw7
    refine Kw.WL_v rfl rfl rfl (Kw.R_assign rfl) ?_
    refine Kw.WL_nil ?_
    refine hK6 _ _ ?_; clear hK6 K6
    refine Kw.WC_sub (l' := [(4, .bool true)]) (Kw.Sub.cons rfl Kw.Sub.nil) ?_
    refine Kw.WC_ret ?_
    refine Kw.QR_then ?_; clear hK3 K3
    exact Kw.post_ret1 rfl rfl ⟨rfl, HB⟩
  ·
    refine Kw.WL_v rfl rfl rfl (Kw.R_gtr (z := false) rfl rfl (decide_eq_false c5)) ?_
    refine Kw.WL_nil ?_
    refine hK4 _ _ ?_; clear hK4 K4
    refine Kw.WC_false rfl ?_
    refine Kw.WC_skip ?_
    refine hK3 _ _ ?_; clear hK3 K3
    refine Kw.WC_seq (fun K8 hK8 => ?_)
    refine Kw.WC_region [some 14, some 15, some 13, some 16, some 17, some 5, none, some 6] rfl ?_
    refine Kw.WL_v rfl rfl rfl (Kw.R_move rfl) ?_
    refine Kw.WL_callc rfl rfl rfl rfl F.cl13 rfl (parse_c s _) ?_; intro w9 bw9
    replace A_g2 := A_g2.call bw9
    replace HB := Kw.Below.then HB (Nat.le_refl _) bw9
    clear bw9
    refine Kw.WL_v rfl rfl rfl (Kw.R_move rfl) ?_
    refine Kw.WL_v rfl rfl rfl (Kw.R_extract rfl rfl) ?_
    refine Kw.WL_v rfl rfl rfl (Kw.R_extract rfl rfl) ?_
    refine Kw.WL_alloc rfl rfl F.zr24 ?_; intro g5 w10 N_g5
    have L_g2_g5 := N_g5.ne A_g2; replace A_g2 := N_g5.keep A_g2
    have A_g5 : Kw.At w10 g5 F.Z24 24 := N_g5.at_
    have G_g5 := N_g5.ge HB (Nat.le_refl _); replace HB := N_g5.below HB (Nat.le_refl _); clear N_g5
    refine Kw.WL_storeW rfl rfl rfl (by rw [cells8_size]; (first | rw [hl] | rw [parse_length]); exact F.sz24) A_g5 (by rw [cells8_size, parse_length]; rfl) (by simpa using cells8_one _) ?_; intro w11 M_g5
    replace A_g2 := M_g5.keep A_g2 (Nat.ne_of_lt L_g2_g5)
    replace A_g5 : Kw.At w11 g5 (cells8 ((parseV s).getD zeros32)) 24 := M_g5.at_ A_g5
    replace HB := M_g5.below HB G_g5; clear M_g5
    refine Kw.WL_v rfl rfl rfl (Kw.R_assign rfl) ?_
    refine Kw.WL_nil ?_
    refine hK8 _ _ ?_; clear hK8 K8
    refine Kw.WC_sub (l' := [(1, .string s), (2, .pointer (some ⟨g2, 0, none⟩)), (5, .pointer (some ⟨g5, 0, none⟩)), (6, .bool ((parseV s).isSome))]) (Kw.Sub.cons rfl (Kw.Sub.cons rfl (Kw.Sub.cons rfl (Kw.Sub.cons rfl Kw.Sub.nil)))) ?_
    refine Kw.WC_seq (fun K12 hK12 => ?_)
    refine Kw.WC_region [some 19, some 20, some 18, some 21, some 22, some 7, none, some 8] rfl ?_
    refine Kw.WL_v rfl rfl rfl (Kw.R_move rfl) ?_
    refine Kw.WL_callc rfl rfl rfl rfl F.cl14 rfl (refParse_c s (by omega) _) ?_; intro w13 bw13
    replace A_g2 := A_g2.call bw13
    replace A_g5 := A_g5.call bw13
    replace HB := Kw.Below.then HB (Nat.le_refl _) bw13
    clear bw13
    refine Kw.WL_v rfl rfl rfl (Kw.R_move rfl) ?_
    refine Kw.WL_v rfl rfl rfl (Kw.R_extract rfl rfl) ?_
    refine Kw.WL_v rfl rfl rfl (Kw.R_extract rfl rfl) ?_
    refine Kw.WL_alloc rfl rfl F.zr24 ?_; intro g7 w14 N_g7
    have L_g2_g7 := N_g7.ne A_g2; replace A_g2 := N_g7.keep A_g2
    have L_g5_g7 := N_g7.ne A_g5; replace A_g5 := N_g7.keep A_g5
    have A_g7 : Kw.At w14 g7 F.Z24 24 := N_g7.at_
    have G_g7 := N_g7.ge HB (Nat.le_refl _); replace HB := N_g7.below HB (Nat.le_refl _); clear N_g7
    refine Kw.WL_storeW rfl rfl rfl (by rw [cells8_size]; (first | rw [hl] | rw [parse_length]); exact F.sz24) A_g7 (by rw [cells8_size, parse_length]; rfl) (by simpa using cells8_one _) ?_; intro w15 M_g7
    replace A_g2 := M_g7.keep A_g2 (Nat.ne_of_lt L_g2_g7)
    replace A_g5 := M_g7.keep A_g5 (Nat.ne_of_lt L_g5_g7)
    replace A_g7 : Kw.At w15 g7 (cells8 ((parseV s).getD zeros32)) 24 := M_g7.at_ A_g7
    replace HB := M_g7.below HB G_g7; clear M_g7
    refine Kw.WL_v rfl rfl rfl (Kw.R_assign rfl) ?_
    refine Kw.WL_nil ?_
    refine hK12 _ _ ?_; clear hK12 K12
    refine Kw.WC_sub (l' := [(2, .pointer (some ⟨g2, 0, none⟩)), (5, .pointer (some ⟨g5, 0, none⟩)), (6, .bool ((parseV s).isSome)), (7, .pointer (some ⟨g7, 0, none⟩)), (8, .bool ((parseV s).isSome))]) (Kw.Sub.cons rfl (Kw.Sub.cons rfl (Kw.Sub.cons rfl (Kw.Sub.cons rfl (Kw.Sub.cons rfl Kw.Sub.nil))))) ?_
    refine Kw.WC_seq (fun K16 hK16 => ?_)
    refine Kw.WC_sched (fun ww => Kw.At ww g2 (cells8 h) 24 ∧ Kw.At ww g5 (cells8 ((parseV s).getD zeros32)) 24 ∧ Kw.At ww g7 (cells8 ((parseV s).getD zeros32)) 24 ∧ True) [(0, true), (2, true), (1, false), (3, false), (4, true), (5, true), (6, true), (7, true), (8, true), (9, true), (10, true), (11, true), (12, true), (13, true), (14, true), (15, true), (16, false), (17, true), (18, true)] [some 23, some 24, some 25, some 26, some 27, some 28, some 29, some 30, some 31, some 32, some 33, some 34, some 35, some 36, some 37, some 38, some 39, some 40, some 4] rfl (by kernel_rfl) rfl (by kernel_rfl) ?_
    obtain ⟨w17, hww17⟩ : ∃ x : World, x = Go.World.drew w15 := ⟨_, rfl⟩
    rw [← hww17]
    replace A_g2 : Kw.At w17 g2 (cells8 h) 24 := by rw [hww17]; exact A_g2
    replace A_g5 : Kw.At w17 g5 (cells8 ((parseV s).getD zeros32)) 24 := by rw [hww17]; exact A_g5
    replace A_g7 : Kw.At w17 g7 (cells8 ((parseV s).getD zeros32)) 24 := by rw [hww17]; exact A_g7
    replace HB : Below w.heap.size w w17 := by rw [hww17]; exact HB.drew
    clear hww17
    have hS : Kw.At w17 g2 (cells8 h) 24 ∧ Kw.At w17 g5 (cells8 ((parseV s).getD zeros32)) 24 ∧ Kw.At w17 g7 (cells8 ((parseV s).getD zeros32)) 24 ∧ True := ⟨A_g2, A_g5, A_g7, trivial⟩
    refine Kw.WX_take rfl rfl rfl rfl (fun _ _ _ h => h) hS (fun _ ⟨A_g2, A_g5, A_g7, _⟩ => Kw.R_loadW rfl Tryd.underlying24 rfl (by rw [cells8_size]; (first | rw [hl] | rw [parse_length]); exact F.sz24) A_g2) ?_
    refine Kw.WX_take rfl rfl rfl rfl (fun _ _ _ h => h) hS (fun _ ⟨A_g2, A_g5, A_g7, _⟩ => Kw.R_loadW rfl Tryd.underlying24 rfl (by rw [cells8_size]; (first | rw [hl] | rw [parse_length]); exact F.sz24) A_g2) ?_
    refine Kw.WX_callc rfl rfl rfl rfl rfl F.cl15 rfl (hex_c h hl hn _) ?_; intro w18 bw18
    clear hS
    replace A_g2 := A_g2.call bw18
    replace A_g5 := A_g5.call bw18
    replace A_g7 := A_g7.call bw18
    replace HB := Kw.Below.then HB (Nat.le_refl _) bw18
    have hS : Kw.At w18 g2 (cells8 h) 24 ∧ Kw.At w18 g5 (cells8 ((parseV s).getD zeros32)) 24 ∧ Kw.At w18 g7 (cells8 ((parseV s).getD zeros32)) 24 ∧ True := ⟨A_g2, A_g5, A_g7, trivial⟩
    clear bw18
    refine ⟨hS, ?_⟩
    refine Kw.WX_callc rfl rfl rfl rfl rfl F.cl16 rfl (refHex_c h hl hn _) ?_; intro w19 bw19
    clear hS
    replace A_g2 := A_g2.call bw19
    replace A_g5 := A_g5.call bw19
    replace A_g7 := A_g7.call bw19
    replace HB := Kw.Below.then HB (Nat.le_refl _) bw19
    have hS : Kw.At w19 g2 (cells8 h) 24 ∧ Kw.At w19 g5 (cells8 ((parseV s).getD zeros32)) 24 ∧ Kw.At w19 g7 (cells8 ((parseV s).getD zeros32)) 24 ∧ True := ⟨A_g2, A_g5, A_g7, trivial⟩
    clear bw19
    refine ⟨hS, ?_⟩
    refine Kw.WX_take rfl rfl rfl rfl (fun _ _ _ h => h) hS (fun _ ⟨A_g2, A_g5, A_g7, _⟩ => Kw.R_eqs (z := true) rfl rfl (decide_eq_true rfl)) ?_
    refine Kw.WX_take rfl rfl rfl rfl (fun _ _ _ h => h) hS (fun _ ⟨A_g2, A_g5, A_g7, _⟩ => Kw.R_move rfl) ?_
    refine Kw.WX_take rfl rfl rfl rfl (fun _ _ _ h => h) hS (fun _ ⟨A_g2, A_g5, A_g7, _⟩ => Kw.R_loadW rfl Tryd.underlying24 rfl (by rw [cells8_size]; (first | rw [hl] | rw [parse_length]); exact F.sz24) A_g5) ?_
    refine Kw.WX_take rfl rfl rfl rfl (fun _ _ _ h => h) hS (fun _ ⟨A_g2, A_g5, A_g7, _⟩ => Kw.R_loadW rfl Tryd.underlying24 rfl (by rw [cells8_size]; (first | rw [hl] | rw [parse_length]); exact F.sz24) A_g7) ?_
    refine Kw.WX_take rfl rfl rfl rfl (fun _ _ _ h => h) hS (fun _ ⟨A_g2, A_g5, A_g7, _⟩ => R_eqh (z := true) rfl rfl (parse_length s) (parse_length s) (parse_bytes s) (parse_bytes s) (decide_eq_true rfl)) ?_
    refine Kw.WX_take rfl rfl rfl rfl (fun _ _ _ h => h) hS (fun _ ⟨A_g2, A_g5, A_g7, _⟩ => Kw.R_pickt rfl rfl) ?_
    refine Kw.WX_take rfl rfl rfl rfl (fun _ _ _ h => h) hS (fun _ ⟨A_g2, A_g5, A_g7, _⟩ => Kw.R_move rfl) ?_
    refine Kw.WX_take rfl rfl rfl rfl (fun _ _ _ h => h) hS (fun _ ⟨A_g2, A_g5, A_g7, _⟩ => Kw.R_move rfl) ?_
    refine Kw.WX_take rfl rfl rfl rfl (fun _ _ _ h => h) hS (fun _ ⟨A_g2, A_g5, A_g7, _⟩ => Kw.R_move rfl) ?_
    refine Kw.WX_take rfl rfl rfl rfl (fun _ _ _ h => h) hS (fun _ ⟨A_g2, A_g5, A_g7, _⟩ => Kw.R_eqb (z := true) rfl rfl Tryd.underlying4 (by simp)) ?_
    refine Kw.WX_take rfl rfl rfl rfl (fun _ _ _ h => h) hS (fun _ ⟨A_g2, A_g5, A_g7, _⟩ => Kw.R_pickt rfl rfl) ?_
    refine Kw.WX_take rfl rfl rfl rfl (fun _ _ _ h => h) hS (fun _ ⟨A_g2, A_g5, A_g7, _⟩ => Kw.R_move rfl) ?_
    refine Kw.WX_callc rfl rfl rfl rfl rfl F.cl10 rfl (Ha _ HB) ?_; intro w21 bw21
    clear hS
    replace A_g2 := A_g2.call bw21
    replace A_g5 := A_g5.call bw21
    replace A_g7 := A_g7.call bw21
    replace HB := Kw.Below.then HB (Nat.le_refl _) bw21
    have hS : Kw.At w21 g2 (cells8 h) 24 ∧ Kw.At w21 g5 (cells8 ((parseV s).getD zeros32)) 24 ∧ Kw.At w21 g7 (cells8 ((parseV s).getD zeros32)) 24 ∧ True := ⟨A_g2, A_g5, A_g7, trivial⟩
    clear bw21
    refine ⟨hS, ?_⟩
    refine Kw.WX_take rfl rfl rfl rfl (fun _ _ _ h => h) hS (fun _ ⟨A_g2, A_g5, A_g7, _⟩ => Kw.R_pickt rfl rfl) ?_
    refine Kw.WX_take rfl rfl rfl rfl (fun _ _ _ h => h) hS (fun _ ⟨A_g2, A_g5, A_g7, _⟩ => Kw.R_assign rfl) ?_
    refine Kw.WX_nil ?_
    clear hS
    refine hK16 _ _ ?_; clear hK16 K16
    refine Kw.WC_sub (l' := [(4, .bool true)]) (Kw.Sub.cons rfl Kw.Sub.nil) ?_
    refine Kw.WC_ret ?_
    exact Kw.post_ret1 rfl rfl ⟨rfl, HB⟩
end Go.Proofs.YtngkedoaijlnlaaDoor.Fn
