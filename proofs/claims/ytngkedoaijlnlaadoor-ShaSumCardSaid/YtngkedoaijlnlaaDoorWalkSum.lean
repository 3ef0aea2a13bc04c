/- ShaSum answers true. -/
import Derived.Test.YtngkedoaijlnlaaDoorRefSum
namespace Go.Proofs.YtngkedoaijlnlaaDoor.Fn
open Go Go.Proofs Go.RowKit Go.Proofs.YtngkedoaijlnlaaDoorW.PrintWords Go.Proofs.YtngkedoaijlnlaaDoorW.PrintLast Go.Proofs.YtngkedoaijlnlaaDoorW.PrintMore
set_option linter.unusedVariables false
set_option linter.unusedSimpArgs false
theorem be_bytes : ∀ (k : Nat) (x : Int), Bytes (be k x)
  | 0, x => fun y h => by cases h
  | k + 1, x => fun y h => by
    rw [be, List.mem_append, List.mem_singleton] at h
    rcases h with h | rfl
    · exact be_bytes k _ y h
    · omega
theorem outL_bytes (V : List Int) : ∀ k, Bytes (outL V k)
  | 0 => fun y h => by cases h
  | k + 1 => fun y h => by
    rw [outL, List.mem_append] at h
    rcases h with h | h
    · exact outL_bytes V k y h
    · exact be_bytes 4 _ y h
theorem sumV_length (K H : List Int) (s : ByteArray) : (sumV K H s).length = 32 := outL_length _ 8
theorem sumV_bytes (K H : List Int) (s : ByteArray) : Bytes (sumV K H s) := outL_bytes _ 8

set_option maxRecDepth 100000 in
set_option maxHeartbeats 4000000 in
theorem ShaSum_c (s : ByteArray) (w : World) (h0 : Tab w 0 H8) (h1 : Tab w 1 K64) : Calls Tryd.prog 3 #[.string s] w fun e w' => e = .returned (.bool true) ∧ Below w.heap.size w w' := by
  have HB : Below w.heap.size w w := Below.refl _ _
  have Ha : ∀ (w' : World), Below w.heap.size w w' → Calls Tryd.prog 10 #[] w' fun e w2 => e = .returned (.bool true) ∧ Below w'.heap.size w' w2 := fun w' b => hashed_c w' (tab_below h0 b) (tab_below h1 b)
  have Sc : s.size ≤ 1000000 → ∀ (w' : World), Below w.heap.size w w' → Calls Tryd.prog 11 #[.string s] w' fun e w2 => e = .returned (.agg (cells8 (sumV K64 H8 s))) ∧ Below w'.heap.size w' w2 := fun hs w' b => sum_c s hs K64 H8 rfl rfl (by unfold Nums; decide +kernel) w' (tab_below h0 b) (tab_below h1 b)
  clear h0 h1
  refine Kw.enter Tryd.func3 rfl Tryd.ntmps3 rfl rfl ?_
  refine Kw.WC_seq (fun K1 hK1 => ?_)
  refine Kw.WC_region [some 2] rfl ?_
  refine Kw.WL_v rfl rfl rfl (Kw.R_assign rfl) ?_
  refine Kw.WL_nil ?_
  refine hK1 _ _ ?_; clear hK1 K1
  refine Kw.WC_seq (fun K2 hK2 => ?_)
  refine Kw.WC_seq (fun K3 hK3 => ?_)
  refine Kw.WC_region [some 3, some 4, some 5] rfl ?_
  refine Kw.WL_v rfl rfl rfl (Kw.R_move rfl) ?_
  refine Kw.WL_v rfl rfl rfl (Kw.R_lens Tryd.underlying9 rfl) ?_
  by_cases c4 : (3000 : Int) < (s.size : Int)
  ·
    refine Kw.WL_v rfl rfl rfl (Kw.R_gtr (z := true) rfl rfl (decide_eq_true c4)) ?_
    refine Kw.WL_nil ?_
    refine hK3 _ _ ?_; clear hK3 K3
    refine Kw.WC_true rfl ?_
    refine Kw.WC_seq (fun K5 hK5 => ?_)
    refine Kw.WC_region [some 6, some 2] rfl ?_
    refine Kw.WL_callc rfl rfl rfl rfl F.cl10 rfl (Ha _ HB) ?_; intro w6 bw6
    replace HB := Kw.Below.then HB (Nat.le_refl _) bw6
    clear bw6
    refine Kw.WL_v rfl rfl rfl (Kw.R_assign rfl) ?_
    refine Kw.WL_nil ?_
    refine hK5 _ _ ?_; clear hK5 K5
    refine Kw.WC_ret ?_
    refine Kw.QR_then ?_; clear hK2 K2
    exact Kw.post_ret1 rfl rfl ⟨rfl, HB⟩
  ·
    refine Kw.WL_v rfl rfl rfl (Kw.R_gtr (z := false) rfl rfl (decide_eq_false c4)) ?_
    refine Kw.WL_nil ?_
    refine hK3 _ _ ?_; clear hK3 K3
    refine Kw.WC_false rfl ?_
    refine Kw.WC_skip ?_
    refine hK2 _ _ ?_; clear hK2 K2
    refine Kw.WC_seq (fun K7 hK7 => ?_)
    refine Kw.WC_region [some 7, some 8, some 9, some 10, some 11, some 12, some 13, some 14, some 2] rfl ?_
    refine Kw.WL_v rfl rfl rfl (Kw.R_move rfl) ?_
    refine Kw.WL_callc rfl rfl rfl rfl F.cl11 rfl (Sc (by omega) _ HB) ?_; intro w8 bw8
    replace HB := Kw.Below.then HB (Nat.le_refl _) bw8
    clear bw8
    refine Kw.WL_v rfl rfl rfl (Kw.R_move rfl) ?_
    refine Kw.WL_callc rfl rfl rfl rfl F.cl12 rfl (refSum_c s (by omega) _) ?_; intro w9 bw9
    replace HB := Kw.Below.then HB (Nat.le_refl _) bw9
    clear bw9
    refine Kw.WL_v rfl rfl rfl (R_eqh (z := true) rfl rfl (sumV_length _ _ _) (sumV_length _ _ _) (sumV_bytes _ _ _) (sumV_bytes _ _ _) (decide_eq_true rfl)) ?_
    refine Kw.WL_v rfl rfl rfl (Kw.R_move rfl) ?_
    refine Kw.WL_callc rfl rfl rfl rfl F.cl10 rfl (Ha _ HB) ?_; intro w10 bw10
    replace HB := Kw.Below.then HB (Nat.le_refl _) bw10
    clear bw10
    refine Kw.WL_v rfl rfl rfl (Kw.R_pickt rfl rfl) ?_
    refine Kw.WL_v rfl rfl rfl (Kw.R_assign rfl) ?_
    refine Kw.WL_nil ?_
    refine hK7 _ _ ?_; clear hK7 K7
    refine Kw.WC_sub (l' := [(2, .bool true)]) (Kw.Sub.cons rfl Kw.Sub.nil) ?_
    refine Kw.WC_ret ?_
    exact Kw.post_ret1 rfl rfl ⟨rfl, HB⟩
end Go.Proofs.YtngkedoaijlnlaaDoor.Fn
