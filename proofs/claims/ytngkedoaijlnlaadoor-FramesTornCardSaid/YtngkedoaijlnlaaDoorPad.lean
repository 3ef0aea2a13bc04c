/- The reference of layer 2: turning and filling up as contracts. -/
import Derived.Test.YtngkedoaijlnlaaDoorRefSha
namespace Go.Proofs.YtngkedoaijlnlaaDoor.Fn
open Go Go.Proofs Go.RowKit Go.Proofs.YtngkedoaijlnlaaDoorW.PrintWords Go.Proofs.YtngkedoaijlnlaaDoorW.PrintLast Go.Proofs.YtngkedoaijlnlaaDoorW.PrintMore
set_option linter.unusedVariables false
set_option linter.unusedSimpArgs false
theorem turn_c (x : Int) (hx : 0 ≤ x ∧ x < 4294967296) (j : Nat) (h1 : 1 ≤ j) (h2 : j ≤ 31) (w : World) : Calls Tryd.prog 28 #[.int .u32 x, .int .u32 (j : Int)] w fun e w' => e = .returned (.int .u32 (rotr x j)) ∧ w' = w := by
  refine Kw.enter Tryd.func28 rfl Tryd.ntmps28 rfl rfl ?_
  refine Kw.WC_seq (fun K1 hK1 => ?_)
  refine Kw.WC_region [some 4] rfl ?_
  refine Kw.WL_v rfl rfl rfl (Kw.R_assign rfl) ?_
  refine Kw.WL_nil ?_
  refine hK1 _ _ ?_; clear hK1 K1
  refine Kw.WC_seq (fun K2 hK2 => ?_)
  refine Kw.WC_region [some 5, some 6, some 7, some 8, some 9, some 10, some 11, some 12, some 4] rfl ?_
  refine Kw.WL_v rfl rfl rfl (Kw.R_move rfl) ?_
  refine Kw.WL_v rfl rfl rfl (Kw.R_move rfl) ?_
  refine Kw.WL_v rfl rfl rfl (Kw.R_shr (c := x / 2 ^ j) rfl rfl (by omega) (by rw [show min (j : Int).toNat IntKind.u32.bits = j by have : IntKind.u32.bits = 32 := rfl; omega]; exact Int.fdiv_eq_ediv_of_nonneg _ (Int.le_of_lt (Int.pow_pos (by decide))))) ?_
  refine Kw.WL_v rfl rfl rfl (Kw.R_move rfl) ?_
  refine Kw.WL_v rfl rfl rfl (Kw.R_move rfl) ?_
  obtain ⟨m, hm⟩ : ∃ x : Nat, (x : Int) = (32 - (j : Int)) % 4294967296 := ⟨((32 - (j : Int)) % 4294967296).toNat, by omega⟩
  refine Kw.WL_v rfl rfl rfl (Kw.R_sub (c := (m : Int)) rfl rfl (by rw [Kw.wrap_u32]; rw [hm])) ?_
  refine Kw.WL_v rfl rfl rfl (Kw.R_shl (c := x * 2 ^ (32 - j) % 4294967296) rfl rfl (by omega) (by rw [Kw.wrap_u32, show min (m : Int).toNat IntKind.u32.bits = 32 - j by have : IntKind.u32.bits = 32 := rfl; omega])) ?_
  refine Kw.WL_v rfl rfl rfl (Kw.R_bits (c := rotr x j) rfl rfl rfl (rotr_or' x hx j h1 h2)) ?_
  refine Kw.WL_v rfl rfl rfl (Kw.R_assign rfl) ?_
  refine Kw.WL_nil ?_
  refine hK2 _ _ ?_; clear hK2 K2
  refine Kw.WC_sub (l' := [(4, .int .u32 (rotr x j))]) (Kw.Sub.cons rfl Kw.Sub.nil) ?_
  refine Kw.WC_ret ?_
  exact Kw.post_ret1 rfl rfl ⟨Kw.ret_int rfl, rfl⟩
/-- A text's bytes as cells. -/
def cellsS (s : ByteArray) : List Value := s.data.toList.map fun b => .int .u8 ((b.toNat : Nat) : Int)
theorem cellsS_append (s t : ByteArray) : cellsS (s ++ t) = cellsS s ++ cellsS t := by unfold cellsS; simp
theorem cellsS_length (s : ByteArray) : (cellsS s).length = s.size := by unfold cellsS; simp
theorem cellsS_at (s : ByteArray) (i : Nat) (h : i < s.size) : (cellsS s)[i]? = some (.int .u8 (bt s (i : Int))) := by
  unfold cellsS bt
  have hl : i < s.data.toList.length := by simpa using h
  rw [List.getElem?_map, List.getElem?_eq_getElem hl]
  simp [h]; rfl
theorem be_last : ∀ (k : Nat) (x : Int), be (k + 1) x = (x / 256 ^ k % 256) :: be k x
  | 0, x => by simp [be]
  | k + 1, x => by
    have ih := be_last k (x / 256)
    rw [be, ih]
    rw [be]
    have e : x / 256 / 256 ^ k = x / 256 ^ (k + 1) := by
      rw [Int.ediv_ediv_of_nonneg (by omega), Int.pow_succ, Int.mul_comm]
    rw [e]; rfl
theorem be_get : ∀ (k : Nat) (x : Int) (i : Nat), i < k → (be k x)[i]? = some (x / 256 ^ (k - 1 - i) % 256)
  | 0, x, i, h => by omega
  | k + 1, x, 0, h => by rw [be_last]; rfl
  | k + 1, x, i + 1, h => by
    rw [be_last, List.getElem?_cons_succ, be_get k x i (by omega)]
    congr 4; omega
theorem be_take (x : Int) (r : Nat) (h1 : 1 ≤ r) (h8 : r ≤ 8) : (be 8 x).take (8 - r) ++ [x / 256 ^ (r - 1) % 256] = (be 8 x).take (8 - (r - 1)) := by
  have hl := be_length 8 x
  rw [show 8 - (r - 1) = (8 - r) + 1 by omega, List.take_succ_eq_append_getElem (by omega)]
  have := be_get 8 x (8 - r) (by omega)
  rw [List.getElem?_eq_getElem (by omega), show 8 - 1 - (8 - r) = r - 1 by omega] at this
  rw [Option.some.inj this]
theorem shr_bytes (x : Int) (r : Nat) (h1 : 1 ≤ r) (h8 : r ≤ 8) (a : Int) (ha : a = 8 * ((r : Int) - 1)) : x.fdiv (2 ^ min a.toNat IntKind.u64.bits) = x / 256 ^ (r - 1) := by
  have e : min a.toNat IntKind.u64.bits = 8 * (r - 1) := by
    have : IntKind.u64.bits = 64 := rfl
    omega
  rw [e, Int.pow_mul, Int.fdiv_eq_ediv_of_nonneg _ (Int.le_of_lt (Int.pow_pos (by decide)))]
  rfl
def padX (s : ByteArray) (k : Nat) : List Value := cellsS s ++ [.int .u8 128] ++ List.replicate k (.int .u8 0)
theorem padX_succ (s : ByteArray) (k : Nat) : padX s k ++ [.int .u8 0] = padX s (k + 1) := by
  unfold padX
  rw [List.append_assoc, List.replicate_succ']
def padY (s : ByteArray) (r : Nat) : List Value := padX s (zerosOf s.size) ++ ((be 8 ((s.size : Int) * 8)).take (8 - r)).map (Value.int .u8)
theorem padY_next (s : ByteArray) (r : Nat) (h1 : 1 ≤ r) (h8 : r ≤ 8) (c : Int) (hc : c = ((s.size : Int) * 8) / 256 ^ (r - 1) % 256) : padY s r ++ [.int .u8 c] = padY s (r - 1) := by
  unfold padY
  rw [← be_take _ r h1 h8, List.map_append, ← List.append_assoc, hc]
  rfl
theorem padY_zero (s : ByteArray) : padY s 0 = cellsS (fillS s) := by
  unfold padY fillS padX
  rw [cellsS_append, cellsS_append, cellsS_append]
  congr 1
  · congr 1
    unfold cellsS
    show _ = (Lib.repeatL [0] (zerosOf s.size)).map _
    generalize zerosOf s.size = k
    induction k with
    | zero => rfl
    | succ k ih => rw [List.replicate_succ, ih]; rfl
  · have := byteCells_be ((s.size : Int) * 8) 8
    rw [List.take_of_length_le (by rw [be_length]; omega)]
    have e : putV ((s.size : Int) * 8) 8 = be 8 ((s.size : Int) * 8) := by unfold putV; rw [if_pos (by omega)]; rfl
    rw [e]
    exact this.symm

set_option maxRecDepth 100000 in
set_option maxHeartbeats 4000000 in
theorem pad_c (s : ByteArray) (hs : s.size ≤ 1000000) (w : World) : Calls Tryd.prog 27 #[.string s] w (Kw.Back fun v w' => Kw.Own w' w.heap.size 5 1 v (fillS s).size (cellsS (fillS s)) ∧ Below w.heap.size w w') := by
  have HB : Below w.heap.size w w := Below.refl _ _
  refine Kw.enter Tryd.func27 rfl Tryd.ntmps27 rfl rfl ?_
  refine Kw.WC_seq (fun K1 hK1 => ?_)
  refine Kw.WC_region [some 2] rfl ?_
  refine Kw.WL_v rfl rfl rfl (Kw.R_assign rfl) ?_
  refine Kw.WL_nil ?_
  refine hK1 _ _ ?_; clear hK1 K1
  refine Kw.WC_seq (fun K2 hK2 => ?_)
  refine Kw.WC_region [some 6, some 7, some 8, some 9, some 3] rfl ?_
  refine Kw.WL_v rfl rfl rfl (Kw.R_move rfl) ?_
  refine Kw.WL_sbytes rfl rfl Tryd.underlying9 Tryd.underlying32 Tryd.underlying5 rfl (by unfold maxLen; omega) ?_; intro b7 cap7 w7 ho7 hb7 hg7 O7
  generalize Value.slice (some ⟨b7, 0, none⟩) s.size cap7 = v7 at O7 ⊢
  have O_v7 : Kw.Own w7 w.heap.size 5 1 v7 s.size (cellsS s) := O7.mono HB.size; replace HB := Kw.Below.then HB (Nat.le_refl _) hb7; clear ho7 hb7 hg7 O7
  obtain ⟨g3, w4, N_g3⟩ : ∃ b w2, Kw.Newb w7 b #[.int .u8 128] 5 w2 := ⟨_, _, rfl, rfl⟩
  refine Kw.WL_v rfl rfl rfl (Kw.R_buildSlice rfl (fun w => by kernel_rfl) N_g3) ?_
  have A_g3 : Kw.At w4 g3 #[.int .u8 128] 5 := N_g3.at_
  have D_v7_g3 := O_v7.ne_new N_g3; replace O_v7 := O_v7.new N_g3
  have G_g3 := N_g3.ge HB (Nat.le_refl _); replace HB := N_g3.below HB (Nat.le_refl _); clear N_g3
  refine Kw.WL_append rfl rfl rfl rfl Tryd.underlying32 Tryd.underlying32 (.inr ⟨_, rfl⟩) F.sz5 F.by5 F.ze5 rfl O_v7 (Kw.News.row (news := [.int .u8 128]) A_g3 rfl rfl (by simp [Value.oneCell'])) (by unfold maxLen; omega) (by omega) (Nat.le_trans (Nat.le_refl _) HB.size) ?_; intro v9 w5 O_v9 R_v9
  have D_v9_g3 := R_v9.ne A_g3 D_v7_g3; replace A_g3 := R_v9.keep A_g3 D_v7_g3
  replace HB := R_v9.below HB (Nat.le_refl _) (fun g hg => O_v7.ge hg); clear R_v9
  replace O_v9 : Kw.Own w5 w.heap.size 5 1 v9 (s.size + 1 + 0) (padX s 0) := by unfold padX; simpa using O_v9
  clear O_v7
  clear A_g3
  refine Kw.WL_v rfl rfl rfl (Kw.R_assign rfl) ?_
  refine Kw.WL_nil ?_
  refine hK2 _ _ ?_; clear hK2 K2
  refine Kw.WC_seq (fun K6 hK6 => ?_)
  refine Kw.WC_block ?_
  refine Kw.WC_loop (ι := Value × Nat) (fun (q : Value × Nat) (ww : World) => match q with | ⟨v, k⟩ => (k ≤ zerosOf s.size) ∧ Kw.Own ww w.heap.size 5 1 v (s.size + 1 + k) (padX s k) ∧ Below w.heap.size w ww) (fun (q : Value × Nat) => match q with | ⟨v, k⟩ => [(0, .string s), (3, v)]) (fun (q : Value × Nat) => match q with | ⟨v, k⟩ => zerosOf s.size - k) (v9, 0) ⟨Nat.zero_le _, O_v9, HB⟩ (Kw.Sub.cons rfl (Kw.Sub.cons rfl Kw.Sub.nil)) ?_
  clear O_v9
  clear HB
  rintro ⟨v, k⟩ w7 ⟨hk, O_v, HB⟩
  dsimp only at *
  refine Kw.WC_seq (fun K8 hK8 => ?_)
  refine Kw.WC_seq (fun K9 hK9 => ?_)
  refine Kw.WC_region [some 10, some 11, some 12, some 13] rfl ?_
  refine Kw.WL_v rfl rfl rfl (Kw.R_move rfl) ?_
  refine Kw.WL_v rfl rfl rfl (Kw.R_leno Tryd.underlying32 rfl O_v) ?_
  obtain ⟨x12, hx12⟩ : ∃ x : Int, x = ((s.size + 1 + k : Nat) : Int) % 64 := ⟨_, rfl⟩
  refine Kw.WL_v rfl rfl rfl (Kw.R_rem (c := x12) rfl rfl (by omega) (by rw [Kw.tmod_pos (by omega)]; rw [hx12])) ?_
  by_cases c10 : (x12 : Int) = 56
  ·
    refine Kw.WL_v rfl rfl rfl (Kw.R_nei (z := false) rfl rfl (decide_eq_true c10)) ?_
    obtain rfl : k = zerosOf s.size := by unfold zerosOf; unfold zerosOf at hk; omega
    refine Kw.WL_nil ?_
    refine hK9 _ _ ?_; clear hK9 K9
    refine Kw.WC_false rfl ?_
    refine Kw.WC_exit ?_
    refine Kw.QE_then ?_; clear hK8 K8
    refine Kw.QE_then ?_
    refine Kw.QE_here ?_
    refine hK6 _ _ ?_; clear hK6 K6
    refine Kw.WC_seq (fun K11 hK11 => ?_)
    refine Kw.WC_region [some 17, some 18, some 19, some 20, some 4] rfl ?_
    refine Kw.WL_v rfl rfl rfl (Kw.R_move rfl) ?_
    refine Kw.WL_v rfl rfl rfl (Kw.R_lens Tryd.underlying9 rfl) ?_
    refine Kw.WL_v rfl rfl rfl (Kw.R_conv (c := (s.size : Int)) Tryd.underlying3 Tryd.underlying55 rfl (Kw.wrap_u64 (by omega))) ?_
    refine Kw.WL_v rfl rfl rfl (Kw.R_mul (c := ((s.size : Int) * 8)) rfl rfl (Kw.wrap_u64 (by omega))) ?_
    refine Kw.WL_v rfl rfl rfl (Kw.R_assign rfl) ?_
    refine Kw.WL_nil ?_
    refine hK11 _ _ ?_; clear hK11 K11
    refine Kw.WC_sub (l' := [(3, v), (4, .int .u64 ((s.size : Int) * 8))]) (Kw.Sub.cons rfl (Kw.Sub.cons rfl Kw.Sub.nil)) ?_
    refine Kw.WC_seq (fun K12 hK12 => ?_)
    refine Kw.WC_seq (fun K13 hK13 => ?_)
    refine Kw.WC_region [some 5] rfl ?_
    refine Kw.WL_v rfl rfl rfl (Kw.R_assign rfl) ?_
    refine Kw.WL_nil ?_
    refine hK13 _ _ ?_; clear hK13 K13
    refine Kw.WC_block ?_
    replace O_v : Kw.Own w7 w.heap.size 5 1 v (s.size + 1 + zerosOf s.size + (8 - 8)) (padY s 8) := by unfold padY; simpa using O_v
    refine Kw.WC_loop (ι := Value × Nat) (fun (q : Value × Nat) (ww : World) => match q with | ⟨u, r⟩ => (r ≤ 8) ∧ Kw.Own ww w.heap.size 5 1 u (s.size + 1 + zerosOf s.size + (8 - r)) (padY s r) ∧ Below w.heap.size w ww) (fun (q : Value × Nat) => match q with | ⟨u, r⟩ => [(3, u), (4, .int .u64 ((s.size : Int) * 8)), (5, .int .i64 ((r : Int) - 1))]) (fun (q : Value × Nat) => match q with | ⟨u, r⟩ => r) (v, 8) ⟨by omega, O_v, HB⟩ (Kw.Sub.cons rfl (Kw.Sub.cons rfl (Kw.Sub.cons rfl Kw.Sub.nil))) ?_
    clear O_v
    clear HB
    rintro ⟨u, r⟩ w14 ⟨hr, O_u, HB⟩
    dsimp only at *
    refine Kw.WC_seq (fun K15 hK15 => ?_)
    refine Kw.WC_seq (fun K16 hK16 => ?_)
    refine Kw.WC_region [some 21, some 22] rfl ?_
    refine Kw.WL_v rfl rfl rfl (Kw.R_move rfl) ?_
    by_cases c17 : (0 : Int) ≤ ((r : Int) - 1)
    ·
      refine Kw.WL_v rfl rfl rfl (Kw.R_geq (z := true) rfl rfl (decide_eq_true c17)) ?_
      refine Kw.WL_nil ?_
      refine hK16 _ _ ?_; clear hK16 K16
      refine Kw.WC_true rfl ?_
      refine Kw.WC_skip ?_
      refine hK15 _ _ ?_; clear hK15 K15
      refine Kw.WC_seq (fun K18 hK18 => ?_)
      refine Kw.WC_block ?_
      refine Kw.WC_region [some 25, some 26, some 27, some 28, some 29, some 30, some 31, some 32, some 3] rfl ?_
      refine Kw.WL_v rfl rfl rfl (Kw.R_move rfl) ?_
      refine Kw.WL_v rfl rfl rfl (Kw.R_move rfl) ?_
      refine Kw.WL_v rfl rfl rfl (Kw.R_move rfl) ?_
      obtain ⟨x28, hx28⟩ : ∃ x : Int, x = 8 * ((r : Int) - 1) := ⟨_, rfl⟩
      refine Kw.WL_v rfl rfl rfl (Kw.R_mul (c := x28) rfl rfl (by rw [Kw.wrap_i64 (by omega)]; rw [hx28])) ?_
      refine Kw.WL_v rfl rfl rfl (Kw.R_shr (c := (s.size : Int) * 8 / 256 ^ (r - 1)) rfl rfl (by omega) (shr_bytes _ r (by omega) hr x28 (by omega))) ?_
      refine Kw.WL_v rfl rfl rfl (Kw.R_conv (c := ((s.size : Int) * 8 / 256 ^ (r - 1) % 256)) Tryd.underlying55 Tryd.underlying5 rfl (Kw.wrap_u8 _)) ?_
      obtain ⟨g19, w20, N_g19⟩ : ∃ b w2, Kw.Newb w14 b #[.int .u8 ((s.size : Int) * 8 / 256 ^ (r - 1) % 256)] 5 w2 := ⟨_, _, rfl, rfl⟩
      refine Kw.WL_v rfl rfl rfl (Kw.R_buildSlice rfl (fun w => by kernel_rfl) N_g19) ?_
      have A_g19 : Kw.At w20 g19 #[.int .u8 ((s.size : Int) * 8 / 256 ^ (r - 1) % 256)] 5 := N_g19.at_
      have D_u_g19 := O_u.ne_new N_g19; replace O_u := O_u.new N_g19
      have G_g19 := N_g19.ge HB (Nat.le_refl _); replace HB := N_g19.below HB (Nat.le_refl _); clear N_g19
      refine Kw.WL_append rfl rfl rfl rfl Tryd.underlying32 Tryd.underlying32 (.inr ⟨_, rfl⟩) F.sz5 F.by5 F.ze5 rfl O_u (Kw.News.row (news := [.int .u8 ((s.size : Int) * 8 / 256 ^ (r - 1) % 256)]) A_g19 rfl rfl (by simp [Value.oneCell'])) (by unfold maxLen zerosOf; omega) (by unfold zerosOf; omega) (Nat.le_trans (Nat.le_refl _) HB.size) ?_; intro v32 w21 O_v32 R_v32
      have D_v32_g19 := R_v32.ne A_g19 D_u_g19; replace A_g19 := R_v32.keep A_g19 D_u_g19
      replace HB := R_v32.below HB (Nat.le_refl _) (fun g hg => O_u.ge hg); clear R_v32
      replace O_v32 : Kw.Own w21 w.heap.size 5 1 v32 (s.size + 1 + zerosOf s.size + (8 - (r - 1))) (padY s (r - 1)) := by rw [← padY_next s r (by omega) hr _ rfl, show 8 - (r - 1) = 8 - r + 1 by omega]; exact O_v32
      clear O_u
      clear A_g19
      refine Kw.WL_v rfl rfl rfl (Kw.R_assign rfl) ?_
      refine Kw.WL_nil ?_
      refine Kw.QN_block ?_
      refine hK18 _ _ ?_; clear hK18 K18
      refine Kw.WC_sub (l' := [(3, v32), (4, .int .u64 ((s.size : Int) * 8)), (5, .int .i64 ((r : Int) - 1))]) (Kw.Sub.cons rfl (Kw.Sub.cons rfl (Kw.Sub.cons rfl Kw.Sub.nil))) ?_
      refine Kw.WC_region [some 23, some 24, some 5] rfl ?_
      refine Kw.WL_v rfl rfl rfl (Kw.R_move rfl) ?_
      refine Kw.WL_v rfl rfl rfl (Kw.R_sub (c := ((r - 1 : Nat) : Int) - 1) rfl rfl (by rw [Kw.wrap_i64 (by omega)]; omega)) ?_
      refine Kw.WL_v rfl rfl rfl (Kw.R_assign rfl) ?_
      refine Kw.WL_nil ?_
      refine Kw.QN_round ((v32, r - 1)) ⟨by omega, O_v32, HB⟩ (by dsimp only; omega) (Kw.Sub.cons rfl (Kw.Sub.cons rfl (Kw.Sub.cons rfl Kw.Sub.nil)))
    ·
      refine Kw.WL_v rfl rfl rfl (Kw.R_geq (z := false) rfl rfl (decide_eq_false c17)) ?_
      refine Kw.WL_nil ?_
      refine hK16 _ _ ?_; clear hK16 K16
      refine Kw.WC_false rfl ?_
      refine Kw.WC_exit ?_
      refine Kw.QE_then ?_; clear hK15 K15
      refine Kw.QE_then ?_
      refine Kw.QE_here ?_
      refine hK12 _ _ ?_; clear hK12 K12
      refine Kw.WC_seq (fun K22 hK22 => ?_)
      refine Kw.WC_region [some 33, some 2] rfl ?_
      refine Kw.WL_v rfl rfl rfl (Kw.R_move rfl) ?_
      refine Kw.WL_v rfl rfl rfl (Kw.R_assign rfl) ?_
      refine Kw.WL_nil ?_
      refine hK22 _ _ ?_; clear hK22 K22
      refine Kw.WC_sub (l' := [(2, u)]) (Kw.Sub.cons rfl Kw.Sub.nil) ?_
      refine Kw.WC_ret ?_
      obtain rfl : r = 0 := by omega
      rw [padY_zero] at O_u
      have hz : s.size + 1 + zerosOf s.size + (8 - 0) = (fillS s).size := by rw [fillS_size]; unfold blockN zerosOf; omega
      rw [hz] at O_u
      exact Kw.post_ret1 rfl rfl ⟨_, rfl, O_u, HB⟩
  ·
    refine Kw.WL_v rfl rfl rfl (Kw.R_nei (z := true) rfl rfl (decide_eq_false c10)) ?_
    refine Kw.WL_nil ?_
    refine hK9 _ _ ?_; clear hK9 K9
    refine Kw.WC_true rfl ?_
    refine Kw.WC_skip ?_
    refine hK8 _ _ ?_; clear hK8 K8
    refine Kw.WC_block ?_
    refine Kw.WC_region [some 14, some 15, some 16, some 3] rfl ?_
    refine Kw.WL_v rfl rfl rfl (Kw.R_move rfl) ?_
    obtain ⟨g23, w24, N_g23⟩ : ∃ b w2, Kw.Newb w7 b #[.int .u8 0] 5 w2 := ⟨_, _, rfl, rfl⟩
    refine Kw.WL_v rfl rfl rfl (Kw.R_buildSlice rfl (fun w => by kernel_rfl) N_g23) ?_
    have A_g23 : Kw.At w24 g23 #[.int .u8 0] 5 := N_g23.at_
    have D_v_g23 := O_v.ne_new N_g23; replace O_v := O_v.new N_g23
    have G_g23 := N_g23.ge HB (Nat.le_refl _); replace HB := N_g23.below HB (Nat.le_refl _); clear N_g23
    refine Kw.WL_append rfl rfl rfl rfl Tryd.underlying32 Tryd.underlying32 (.inr ⟨_, rfl⟩) F.sz5 F.by5 F.ze5 rfl O_v (Kw.News.row (news := [.int .u8 0]) A_g23 rfl rfl (by simp [Value.oneCell'])) (by unfold maxLen; unfold zerosOf at hk; omega) (by unfold zerosOf at hk; omega) (Nat.le_trans (Nat.le_refl _) HB.size) ?_; intro v16 w25 O_v16 R_v16
    have D_v16_g23 := R_v16.ne A_g23 D_v_g23; replace A_g23 := R_v16.keep A_g23 D_v_g23
    replace HB := R_v16.below HB (Nat.le_refl _) (fun g hg => O_v.ge hg); clear R_v16
    replace O_v16 : Kw.Own w25 w.heap.size 5 1 v16 (s.size + 1 + (k + 1)) (padX s (k + 1)) := by rw [← padX_succ]; exact O_v16
    clear O_v
    clear A_g23
    refine Kw.WL_v rfl rfl rfl (Kw.R_assign rfl) ?_
    refine Kw.WL_nil ?_
    refine Kw.QN_block ?_
    refine Kw.QN_round ((v16, k + 1)) ⟨by unfold zerosOf; unfold zerosOf at hk; omega, O_v16, HB⟩ (by dsimp only; unfold zerosOf; unfold zerosOf at hk; omega) (Kw.Sub.cons rfl (Kw.Sub.cons rfl Kw.Sub.nil))
end Go.Proofs.YtngkedoaijlnlaaDoor.Fn
