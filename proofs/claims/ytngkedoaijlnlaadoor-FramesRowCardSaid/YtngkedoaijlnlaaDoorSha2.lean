/- The walk of a block of SHA-256 mixed into eight numbers. No condition but the sizes, and that the table of the rounds lies in its variable. -/
import Derived.Test.YtngkedoaijlnlaaDoorSha1
namespace Go.Proofs.YtngkedoaijlnlaaDoor.Fn
open Go.RowKit Go.Proofs.YtngkedoaijlnlaaDoorW.PrintWords Go.Proofs.YtngkedoaijlnlaaDoorW.PrintLast Go.Proofs.YtngkedoaijlnlaaDoorW.PrintMore
attribute [local go_sem] max2_int min2_int max_two min_two max_three min_three max_four min_four
/-- Eight numbers, one round on. -/
def roundL (K n : Int) : List Int → List Int
  | [a, b, c, d, e, f, g, h] =>
    let t := (h + xr (xr (rotr e 6) (rotr e 11)) (rotr e 25) + xr (an e f) (an (xr IntKind.u32.max e) g) + K + n) % 4294967296
    let u := (xr (xr (rotr a 2) (rotr a 13)) (rotr a 22) + xr (xr (an a b) (an a c)) (an b c)) % 4294967296
    [(t + u) % 4294967296, a, b, c, (d + t) % 4294967296, e, f, g]
  | l => l
def Tab (w : World) (g : Nat) (l : List Int) : Prop := ∀ i, i < l.length → w.cell? ⟨g, i, none⟩ = some (.int .u32 (l.getD i 0))
def Nums (l : List Int) : Prop := ∀ x ∈ l, 0 ≤ x ∧ x < 4294967296
theorem eight {l : List Int} (h : l.length = 8) : ∃ a b c d e f g i, l = [a, b, c, d, e, f, g, i] := by
  match l, h with
  | [a, b, c, d, e, f, g, i], _ => exact ⟨a, b, c, d, e, f, g, i, rfl⟩
theorem roundL_length (K n : Int) (l : List Int) (h : l.length = 8) : (roundL K n l).length = 8 := by
  obtain ⟨a, b, c, d, e, f, g, i, rfl⟩ := eight h; rfl
theorem roundL_nums (K n : Int) (l : List Int) (h : l.length = 8) (hn : Nums l) : Nums (roundL K n l) := by
  obtain ⟨a, b, c, d, e, f, g, i, rfl⟩ := eight h
  intro x hx
  have hx' := hn x
  simp only [roundL, List.mem_cons, List.not_mem_nil, or_false] at hx hx'
  rcases hx with h | h | h | h | h | h | h | h
  · omega
  · exact hx' (by simp [h])
  · exact hx' (by simp [h])
  · exact hx' (by simp [h])
  · omega
  · exact hx' (by simp [h])
  · exact hx' (by simp [h])
  · exact hx' (by simp [h])
def roundsL (K W : List Int) (v : List Int) : Nat → List Int
  | 0 => v
  | k + 1 => roundL (K.getD k 0) (W.getD k 0) (roundsL K W v k)
theorem roundsL_length (K W v : List Int) (h : v.length = 8) (k : Nat) : (roundsL K W v k).length = 8 := by
  induction k with
  | zero => exact h
  | succ k ih => exact roundL_length _ _ _ ih
theorem roundsL_nums (K W v : List Int) (h : v.length = 8) (hn : Nums v) (k : Nat) : Nums (roundsL K W v k) := by
  induction k with
  | zero => exact hn
  | succ k ih => exact roundL_nums _ _ _ (roundsL_length K W v h k) ih
def addL (v was : List Int) : Nat → List Int
  | 0 => v
  | k + 1 => (addL v was k).set k ((v.getD k 0 + was.getD k 0) % 4294967296)
theorem addL_length (v was : List Int) (k : Nat) : (addL v was k).length = v.length := by
  induction k with
  | zero => rfl
  | succ k ih => simp [addL, ih]
theorem addL_at (v was : List Int) (k : Nat) : ∀ i, k ≤ i → (addL v was k).getD i 0 = v.getD i 0 := by
  induction k with
  | zero => intro i _; rfl
  | succ k ih =>
    intro i hi
    simp only [addL]
    rw [List.getD_eq_getElem?_getD, List.getElem?_set_ne (by omega), ← List.getD_eq_getElem?_getD]
    exact ih i (by omega)
theorem tab_below {w w1 : World} {g : Nat} {l : List Int} (h : Tab w g l) (hb : Below w.heap.size w w1) : Tab w1 g l := fun i hi => pw_cell_below hb (h i hi)
theorem info51 : (Tryd.prog.info? 51).map (·.size) = some 8 := by kernel_rfl
theorem wpList_store8 {ops : Array Oper} {rest : List Oper} {o : Oper} {a : Act} {w : World} {N : Nat} {Q : Exit → Act → World → Prop} (l : List Int) (hl : Hid (l.length = 8)) (g : Nat) (hg : Hid (w.heap[g]? = some (.cells (cells l) 51 (0, 0))))
    (hgd : o.guard = none) (x y : Operand) (ho : o.op = .store 51 x y) (hx : a.eval x = .pointer (some ⟨g, 0, none⟩)) (x0 x1 x2 x3 x4 x5 x6 x7 : Int) (hy : a.eval y = .agg #[.int .u32 x0, .int .u32 x1, .int .u32 x2, .int .u32 x3, .int .u32 x4, .int .u32 x5, .int .u32 x6, .int .u32 x7])
    (h : ∀ w', Hid (w' = (w.drewN N).setRow g (cells [x0, x1, x2, x3, x4, x5, x6, x7])) → wpList Tryd.prog ops Q rest (a.put o.dst undef) w') : wpList Tryd.prog ops Q (o :: rest) a (w.drewN N) :=
  wpList_store_row hgd 51 x y ho g (cells [x0, x1, x2, x3, x4, x5, x6, x7]) hx hy 51 (cells l) hg.out info51 (by rw [cells_size, hl.out]; rfl) (cells_one _) (h _ rfl)
theorem quiet2 {P : Program} {f : FuncId} {args : Array Value} {w : World} {a n : Nat} {v : Value}
    (h : ∀ wx, Calls P f args wx fun e w' => e = .returned v ∧ w' = wx) : Calls P f args (w.drewN (a + n)) fun e w'' => e = .returned v ∧ ∃ m, w'' = w.drewN (a + m) :=
  (h _).mono fun _ _ ⟨he, hm⟩ => ⟨he, n, hm⟩
theorem heap_keep {w : World} {g : Nat} {x : Obj} (o : Obj) (h : w.heap[g]? = some x) : (w.alloc o).heap[g]? = some x := by
  have := (Array.getElem?_eq_some_iff.1 h).1
  simp only [World.alloc, Array.getElem?_push]
  rw [if_neg (by omega)]; exact h
theorem heap_new3 (w : World) (a b c : Obj) : (((w.alloc a).alloc b).alloc c).heap[w.heap.size + 1 + 1]? = some c := by
  have e : ((w.alloc a).alloc b).heap.size = w.heap.size + 1 + 1 := by simp only [World.alloc, Array.size_push]
  rw [← e]; exact heap_alloc_new _ _
theorem heap_new2 (w : World) (a b : Obj) : ((w.alloc a).alloc b).heap[w.heap.size + 1]? = some b := by
  have e : (w.alloc a).heap.size = w.heap.size + 1 := by simp only [World.alloc, Array.size_push]
  rw [← e]; exact heap_alloc_new _ _
theorem heap_below {w w1 : World} {g : Nat} {x : Obj} (hb : Below w.heap.size w w1) (h : w.heap[g]? = some x) : w1.heap[g]? = some x := (hb.block _ (Array.getElem?_eq_some_iff.1 h).1).trans h
theorem W_nums (s : ByteArray) (k : Nat) : Nums (spreadL s k) := fun x hx => spreadL_range s k x hx
set_option maxHeartbeats 1000000 in
set_option maxRecDepth 100000 in
theorem mix_c (v : List Int) (hv8 : v.length = 8) (hvn : Nums v) (K : List Int) (hK : K.length = 64) (s : ByteArray) (hs : s.size = 64) (w : World) (hT : Tab w 1 K) :
    Calls Tryd.prog 25 #[.agg (cells v), .string s] w fun e w' => e = .returned (.agg (cells (addL (roundsL K (spreadL s 64) v 64) v 8))) ∧ Below w.heap.size w w' := by
  obtain ⟨C0, hC0⟩ : ∃ C0, C0 = cells v := ⟨_, rfl⟩
  obtain ⟨W, hW⟩ : ∃ W, W = spreadL s 64 := ⟨_, rfl⟩
  have hW64 : W.length = 64 := by rw [hW, spreadL_length]
  have hWn : Nums W := by rw [hW]; exact W_nums s 64
  have hst : C0.size = 8 := by rw [hC0, cells_size, hv8]
  have Hi1 := Lib.hid (show (Tryd.prog.info? 51).map (·.size) = some C0.size by rw [hst]; kernel_rfl)
  have H1 := Lib.hid (show C0.all (·.oneCell') = true by rw [hC0]; exact cells_one _)
  have Hst := Lib.hid hst
  obtain ⟨u, hu⟩ : ∃ u, u = roundsL K W v 64 := ⟨_, rfl⟩
  have R8 := Lib.hid (show u.length = 8 by rw [hu]; exact roundsL_length K W v hv8 64)
  have Ru := Lib.hid (show Nums u by rw [hu]; exact roundsL_nums K W v hv8 hvn 64)
  rw [← hC0, ← hW, ← hu]
  have Hu := Lib.hid hu
  clear hu
  have HC0 := Lib.hid hC0
  have hi8 := Lib.hid (show (Tryd.prog.info? 51).map (·.size) = some 8 by kernel_rfl)
  have HT := Lib.hid hT
  have HK := Lib.hid hK
  have Hv8 := Lib.hid hv8
  have HW64 := Lib.hid hW64
  have HWn := Lib.hid hWn
  have Hvn := Lib.hid hvn
  have sc := Lib.hid fun w => spread_c s hs w
  rw [← hW] at sc
  have h1lt : 1 < w.heap.size := block_lt_of_cell (hT 0 (by omega))
  clear hT hK hs hv8 hC0 hst hW64 hWn hvn hW
  have hsz2 : w.heap.size + 1 + 1 = ((w.alloc (.cells C0 51)).alloc (.cells #[.int .u32 0, .int .u32 0, .int .u32 0, .int .u32 0, .int .u32 0, .int .u32 0, .int .u32 0, .int .u32 0] 51)).heap.size := by simp only [World.alloc, Array.size_push]
  have Hsz2 := Lib.hid hsz2
  clear hsz2
  go_enter Tryd.func25, Tryd.ntmps25
  go_wp2_with (first | (refine wpList_load_row rfl 51 (.tmp 2) rfl w.heap.size rfl 51 C0 (0, 0) _ (heap_keep _ (heap_alloc_new _ _)) Tryd.underlying51 rfl Hi1.out ?_) | (refine wpList_store_new rfl 51 (.tmp 5) (.tmp 13) rfl (w.heap.size + 1 + 1) Hsz2.out C0 rfl rfl 51 _ Hi1.out (Eq.symm Hst.out) H1.out ?_))
  obtain ⟨w0, hw0⟩ : ∃ w0, w0 = ((w.alloc (.cells C0 51)).alloc (.cells #[.int .u32 0, .int .u32 0, .int .u32 0, .int .u32 0, .int .u32 0, .int .u32 0, .int .u32 0, .int .u32 0] 51)).alloc (.cells C0 51) := ⟨_, rfl⟩
  rw [← hw0]
  have B0 : Below w.heap.size w w0 := by rw [hw0]; exact below_alloc (below_alloc (below_alloc (Below.refl _ _) _) _) _
  have a0 : w0.heap[w.heap.size]? = some (.cells C0 51 (0, 0)) := by rw [hw0]; exact heap_keep _ (heap_keep _ (heap_alloc_new _ _))
  have a1 : w0.heap[w.heap.size + 1]? = some (.cells #[.int .u32 0, .int .u32 0, .int .u32 0, .int .u32 0, .int .u32 0, .int .u32 0, .int .u32 0, .int .u32 0] 51 (0, 0)) := by rw [hw0]; exact heap_keep _ (heap_new2 _ _ _)
  have a2 : w0.heap[w.heap.size + 1 + 1]? = some (.cells C0 51 (0, 0)) := by rw [hw0]; exact heap_new3 _ _ _ _
  refine (sc.out w0).mono ?_; rintro e w1 ⟨rfl, b1⟩
  have B1 := Lib.hid (below_then B0 B0.size b1)
  have A0 := Lib.hid (heap_below b1 a0)
  have A1 := Lib.hid (heap_below b1 a1)
  have A2 := Lib.hid (heap_below b1 a2)
  clear a0 a1 a2 b1 B0 hw0
  go_wp2_with fail
  go_loopw [16] (fun i wr => ∃ k : Nat, k ≤ 64 ∧ i = .int .i64 k ∧ Hid (wr.heap[w.heap.size]? = some (.cells C0 51 (0, 0))) ∧ Hid (wr.heap[w.heap.size + 1]? = some (.cells #[.int .u32 0, .int .u32 0, .int .u32 0, .int .u32 0, .int .u32 0, .int .u32 0, .int .u32 0, .int .u32 0] 51 (0, 0))) ∧ Hid (wr.heap[w.heap.size + 1 + 1]? = some (.cells (cells (roundsL K W v k)) 51 (0, 0))) ∧ Hid (Below w.heap.size w wr)) (fun i _ => 64 - (intOf i).toNat)
  case atStart => exact ⟨0, by omega, rfl, A0, A1, by rw [HC0.out] at A2; exact A2, B1⟩
  case round =>
    clear A0 A1 A2 B1
    obtain ⟨k, hk, rfl, A0, A1, A2, B1⟩ := hrel
    have n8 := roundsL_length K W v Hv8.out k
    have hr8 := Lib.hid n8
    have nn := roundsL_nums K W v Hv8.out Hvn.out k
    obtain ⟨a, b, c, d, e, f, g, h, hV⟩ := eight n8
    rw [hV] at nn
    have hc0 := cell_at A2.out 0 (by omega); have hc1 := cell_at A2.out 1 (by omega); have hc2 := cell_at A2.out 2 (by omega); have hc3 := cell_at A2.out 3 (by omega)
    have hc4 := cell_at A2.out 4 (by omega); have hc5 := cell_at A2.out 5 (by omega); have hc6 := cell_at A2.out 6 (by omega); have hc7 := cell_at A2.out 7 (by omega)
    rw [hV] at hc0 hc1 hc2 hc3 hc4 hc5 hc6 hc7
    simp only [List.getD_cons_zero, List.getD_cons_succ] at hc0 hc1 hc2 hc3 hc4 hc5 hc6 hc7
    have HV := Lib.hid hV
    have ra := nn a (by simp); have re := nn e (by simp)
    have T1 := tab_below HT.out B1.out
    clear n8 nn hV
    by_cases h64 : k < 64
    · have hkc := T1 k (by rw [HK.out]; exact h64)
      have hix := Lib.hid fun wx => run_index_u32 (cells W) 64 56 Tryd.underlying56 k h64 _ (cells_get W k (by rw [HW64.out]; exact h64)) wx
      have hix' := fun wx => hix.out wx
      have rw1 := getD_range W HWn.out k
      obtain ⟨n, hn⟩ : ∃ n, n = W.getD k 0 := ⟨_, rfl⟩
      obtain ⟨q, hq⟩ : ∃ q, q = K.getD k 0 := ⟨_, rfl⟩
      rw [← hn] at hix' rw1
      rw [← hq] at hkc
      have Hn := Lib.hid hn
      have Hq := Lib.hid hq
      clear hn hq hix T1
      have q6 := Lib.hid (right_c6 e re); have q11 := Lib.hid (right_c11 e re); have q25 := Lib.hid (right_c25 e re)
      have q2 := Lib.hid (right_c2 a ra); have q13 := Lib.hid (right_c13 a ra); have q22 := Lib.hid (right_c22 a ra)
      go_wp2_with fail
      go_quiet (fail)
      go_wp2_with fail
      go_quiet (first | (with_reducible exact quiet2 q6.out) | (with_reducible exact quiet2 q11.out) | (with_reducible exact quiet2 q25.out))
      go_wp2_with fail
      go_quiet (first | (with_reducible exact quiet2 q2.out) | (with_reducible exact quiet2 q13.out) | (with_reducible exact quiet2 q22.out))
      go_wp2_with (refine wpList_store8 (roundsL K W v k) hr8 (w.heap.size + 1 + 1) A2 rfl (.tmp 5) (.tmp 93) rfl rfl _ _ _ _ _ _ _ _ rfl ?_; intro w2 hw2)
      refine ⟨⟨k + 1, by omega, by go_num, ?_, ?_, ?_, ?_⟩, by simp [intOf]; omega⟩
      · rw [hw2.out, setRow_other _ _ _ _ (by omega)]; exact A0.out
      · rw [hw2.out, setRow_other _ _ _ _ (by omega)]; exact A1.out
      · rw [hw2.out]
        refine (setRow_heap (wr.drewN _) _ _ _ 51 (0, 0) A2.out).trans ?_
        show _ = some (Obj.cells (cells (roundL (K.getD k 0) (W.getD k 0) (roundsL K W v k))) 51 (0, 0))
        rw [HV.out, ← Hn.out, ← Hq.out]
        refine congrArg (fun l => some (Obj.cells (cells l) 51 (0, 0))) ?_
        simp only [roundL, xr, an, List.cons.injEq, and_true, true_and]
        constructor <;> omega
      · rw [hw2.out]; exact below_setRow (pw_below_drewN B1.out _) (by omega) _
    · obtain rfl : k = 64 := by omega
      have r8 := roundsL_length K W v Hv8.out 64
      rw [← Hu.out] at A2
      clear hc0 hc1 hc2 hc3 hc4 hc5 hc6 hc7 HV T1 r8 hr8
      go_wp2_with fail
      obtain ⟨wb, hwb⟩ : ∃ wb : World, wb = wr := ⟨_, rfl⟩
      rw [← hwb] at A0 A1 A2 B1 ⊢
      clear hwb
      go_loopw [95] (fun i wr => ∃ j : Nat, j ≤ 8 ∧ i = .int .i64 j ∧ Hid (wr.heap[w.heap.size]? = some (.cells C0 51 (0, 0))) ∧ Hid (wr.heap[w.heap.size + 1]? = some (.cells #[.int .u32 0, .int .u32 0, .int .u32 0, .int .u32 0, .int .u32 0, .int .u32 0, .int .u32 0, .int .u32 0] 51 (0, 0))) ∧ Hid (wr.heap[w.heap.size + 1 + 1]? = some (.cells (cells (addL u v j)) 51 (0, 0))) ∧ Hid (Below w.heap.size w wr)) (fun i _ => 8 - (intOf i).toNat)
      case atStart => exact ⟨0, by omega, rfl, A0, A1, A2, B1⟩
      case round =>
        clear A0 A1 A2 B1
        obtain ⟨j, hj, rfl, A0, A1, A2, B1⟩ := hrel
        have al := (addL_length u v j).trans R8.out
        by_cases h8 : j < 8
        · have c2 := cell_at A2.out j (by omega)
          rw [addL_at u v j j (Nat.le_refl _)] at c2
          have A0' := A0.out
          rw [HC0.out] at A0'
          have c0 := cell_at A0' j (by rw [Hv8.out]; exact h8)
          have f2 := frozen_of_row wr (w.heap.size + 1 + 1) j _ 51 A2.out
          obtain ⟨p, hp⟩ : ∃ p, p = u.getD j 0 := ⟨_, rfl⟩
          obtain ⟨q, hq⟩ : ∃ q, q = v.getD j 0 := ⟨_, rfl⟩
          rw [← hp] at c2; rw [← hq] at c0
          have Hp := Lib.hid hp; have Hq := Lib.hid hq
          clear A0' hp hq al
          go_wp2_with fail
          refine region_tail 8 (by kernel_rfl) (by kernel_rfl) ?_
          intro w2 hw2
          simp only [List.take_succ_cons, List.take_zero, List.drop_succ_cons, List.drop_zero]
          have e0 : w2.cell? ⟨w.heap.size, j, none⟩ = some (.int .u32 q) := by rw [hw2.out]; exact c0
          have e2 : w2.cell? ⟨w.heap.size + 1 + 1, j, none⟩ = some (.int .u32 p) := by rw [hw2.out]; exact c2
          have f3 : w2.frozen? ⟨w.heap.size + 1 + 1, j, none⟩ = false := by rw [hw2.out]; exact f2
          clear c0 c2 f2
          repeat still_step
          try refine wpStill_nil ?_
          go_wp2_with fail
          refine ⟨?_, by simp [intOf]; omega⟩
          (repeat apply Exists.intro)
          refine ⟨?_, rfl⟩
          refine ⟨j + 1, by omega, by go_num, ?_, ?_, ?_, ?_⟩
          · rw [heap_setCell_other _ _ _ _ (by show w.heap.size ≠ w.heap.size + 1 + 1; omega), hw2.out]; exact A0.out
          · rw [heap_setCell_other _ _ _ _ (by show w.heap.size + 1 ≠ w.heap.size + 1 + 1; omega), hw2.out]; exact A1.out
          · have h2 : w2.heap[w.heap.size + 1 + 1]? = some (.cells (cells (addL u v j)) 51 (0, 0)) := by rw [hw2.out]; exact A2.out
            have g := set_at h2 j ((p + q) % 4294967296)
            rw [Hp.out, Hq.out] at g ⊢
            exact g
          · exact below_set (by rw [hw2.out]; exact below_drew B1.out) (by omega) _ _
        · obtain rfl : j = 8 := by omega
          obtain ⟨C8, hC8⟩ : ∃ C8, C8 = cells (addL u v 8) := ⟨_, rfl⟩
          rw [← hC8] at A2
          have hs8 : C8.size = 8 := by rw [hC8, cells_size, al]
          have Hs8 := Lib.hid hs8
          have Hi8 := Lib.hid (show (Tryd.prog.info? 51).map (·.size) = some C8.size by rw [hs8]; kernel_rfl)
          have Ho8 := Lib.hid (show C8.all (·.oneCell') = true by rw [hC8]; exact cells_one _)
          have HC8 := Lib.hid hC8
          clear al hs8 hC8
          go_wp2_with (first | (refine wpList_load_row rfl 51 (.tmp 5) rfl (w.heap.size + 1 + 1) rfl 51 C8 (0, 0) _ A2.out Tryd.underlying51 rfl Hi8.out ?_) | (refine wpList_store_row rfl 51 (.tmp 4) (.tmp 107) rfl (w.heap.size + 1) C8 rfl rfl 51 _ A1.out Hi8.out (Eq.symm Hs8.out) Ho8.out ?_))
          have hR := setRow_heap wr (w.heap.size + 1) _ C8 51 (0, 0) A1.out
          exact bodyPost_ret (v := .agg C8) (results_cell_row (p := 4) (ty := 51) rfl _ _ (w.heap.size + 1) 51 C8 (0, 0) _ rfl hR Tryd.underlying51 rfl Hi8.out) rfl ⟨by rw [HC8.out], below_setRow B1.out (by omega) C8⟩
end Go.Proofs.YtngkedoaijlnlaaDoor.Fn
