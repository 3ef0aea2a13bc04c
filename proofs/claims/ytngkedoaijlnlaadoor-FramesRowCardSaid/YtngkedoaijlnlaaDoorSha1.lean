/- The walk of a block of SHA-256 spread into 64 numbers, and small laws on blocks of numbers. No condition but the block has 64 bytes. -/
import Derived.Deep.QuietTactic
import Derived.BigQuiet
import Derived.Test.YtngkedoaijlnlaaDoorShaPlain
import Derived.Lib.Hide
import Derived.StillTailTactics
import Derived.Laws.Tables
import Derived.Laws.CopyRow
import Derived.Deep.WholeRow
import Derived.Laws.CopyOwn


namespace Go.Proofs.YtngkedoaijlnlaaDoor.Fn
open Go.RowKit Go.Proofs.YtngkedoaijlnlaaDoorW.PrintWords Go.Proofs.YtngkedoaijlnlaaDoorW.PrintLast Go.Proofs.YtngkedoaijlnlaaDoorW.PrintMore
attribute [local go_sem] max2_int min2_int max_two min_two max_three min_three max_four min_four   -- for this text's walks alone
set_option maxHeartbeats 8000000 in
set_option maxRecDepth 100000 in
theorem bits_RotateLeft32.same (a0 : Int) (a1 : Int) (r : Int) (w : World) (h : bits_RotateLeft32.f a0 a1 = some r) :
    Calls Tryd.prog 51 #[.int .u32 a0, .int .i64 a1] w fun e w' => e = .returned (.int .u32 r) ∧ w' = w := by
  have H : (if 0 ≤ (Go.bits .and .u64 (IntKind.u64.wrap (a1)) 31) then (if 0 ≤ (IntKind.u64.wrap (32 - (Go.bits .and .u64 (IntKind.u64.wrap (a1)) 31))) then (some (Go.bits .or .u32 (shl .u32 a0 (Go.bits .and .u64 (IntKind.u64.wrap (a1)) 31)) (shr .u32 a0 (IntKind.u64.wrap (32 - (Go.bits .and .u64 (IntKind.u64.wrap (a1)) 31)))))) else (none)) else (none)) = some r := h
  clear h
  obtain ⟨ji3, hji3⟩ : ∃ j_ : Int, (Go.bits .and .u64 (IntKind.u64.wrap (a1)) 31) = j_ := ⟨_, rfl⟩
  replace H : (if 0 ≤ (ji3) then (if 0 ≤ (IntKind.u64.wrap (32 - (ji3))) then (some (Go.bits .or .u32 (shl .u32 a0 (ji3)) (shr .u32 a0 (IntKind.u64.wrap (32 - (ji3)))))) else (none)) else (none)) = some r := by first | (rw [hji3] at H; exact H) | (simp only [hji3] at H ⊢; exact H)
  by_cases c4 : 0 ≤ (ji3)
  · rw [if_pos c4] at H
    have c4b0 := eq_true c4
    have c4b1 : decide (0 ≤ (ji3)) = true := decide_eq_true c4
    clear c4
    obtain ⟨ji5, hji5⟩ : ∃ j_ : Int, (shl .u32 a0 (ji3)) = j_ := ⟨_, rfl⟩
    replace H : (if 0 ≤ (IntKind.u64.wrap (32 - (ji3))) then (some (Go.bits .or .u32 (ji5) (shr .u32 a0 (IntKind.u64.wrap (32 - (ji3)))))) else (none)) = some r := by first | (rw [hji5] at H; exact H) | (simp only [hji5] at H ⊢; exact H)
    have hji5_ : (IntKind.u32.wrap (a0 * 2 ^ min (ji3).toNat 32)) = ji5 := hji5
    have hji5z : (ji3) ≤ 32 → (IntKind.u32.wrap (a0 * 2 ^ (ji3).toNat)) = ji5 := shl_small hji5
    obtain ⟨ji6, hji6⟩ : ∃ j_ : Int, (IntKind.u64.wrap (32 - (ji3))) = j_ := ⟨_, rfl⟩
    replace H : (if 0 ≤ (ji6) then (some (Go.bits .or .u32 (ji5) (shr .u32 a0 (ji6)))) else (none)) = some r := by first | (rw [hji6] at H; exact H) | (simp only [hji6] at H ⊢; exact H)
    by_cases c7 : 0 ≤ (ji6)
    · rw [if_pos c7] at H
      have c7b0 := eq_true c7
      have c7b1 : decide (0 ≤ (ji6)) = true := decide_eq_true c7
      clear c7
      obtain ⟨ji8, hji8⟩ : ∃ j_ : Int, (shr .u32 a0 (ji6)) = j_ := ⟨_, rfl⟩
      replace H : (some (Go.bits .or .u32 (ji5) (ji8))) = some r := by first | (rw [hji8] at H; exact H) | (simp only [hji8] at H ⊢; exact H)
      have hji8_ : (a0 / 2 ^ min (ji6).toNat 32) = ji8 := hji8
      have hji8z : (ji6) ≤ 32 → (a0 / 2 ^ (ji6).toNat) = ji8 := shr_small hji8
      obtain rfl := Option.some.inj H
      go_enter Tryd.func51, Tryd.ntmps51
      go_wp2
      go_ret
      exact ⟨by first | rfl | (simp; done) | (simp only [← hji3, ← hji5, ← hji6, ← hji8] <;> (first | rfl | simp)) | (simp [*]; done), rfl⟩
    · rw [if_neg c7] at H
      exact absurd H (by simp)
  · rw [if_neg c4] at H
    exact absurd H (by simp)
set_option maxHeartbeats 8000000 in
set_option maxRecDepth 100000 in
theorem bits_Right.same (a0 : Int) (a1 : Int) (r : Int) (w : World) (h : bits_Right.f a0 a1 = some r) :
    Calls Tryd.prog 41 #[.int .u32 a0, .int .i64 a1] w fun e w' => e = .returned (.int .u32 r) ∧ w' = w := by
  have H : ((bits_RotateLeft32.f a0 (wrap64 (-(Int.tmod a1 32)))).bind fun t108 => (some t108)) = some r := h
  clear h
  replace H := Option.bind_eq_some_iff.mp H
  obtain ⟨t108, A30, H⟩ := H
  replace H : (some t108) = some r := H
  have A3 := Aside0.mk A30
  clear A30
  obtain rfl := Option.some.inj H
  go_enter Tryd.func41, Tryd.ntmps41
  go_wp2_with (first | ((with_reducible refine gate_callee (f := 51) rfl ?_); refine goesL_ (some 9) rfl rfl Tryd.func51 (by kernel_rfl) rfl #[.int .u32 a0, .int .i64 (wrap64 (-(Int.tmod a1 32)))] rfl (by (try simp only [List.map_toArray, List.map_cons, List.map_nil]); first | done | rfl | (simp only [List.length_drop, List.length_take]; rfl)) ?_; (with_reducible refine (bits_RotateLeft32.same a0 (wrap64 (-(Int.tmod a1 32))) t108 _ A3.out).mono ?_); rintro e w' ⟨rfl, rfl⟩; refine ⟨_, rfl, ?_⟩))
  go_ret
  exact ⟨by first | rfl | (simp; done) | (simp [*]; done), rfl⟩
/-- The next of a block's 64 numbers. -/
def nextW (s : ByteArray) (l : List Int) : Int :=
  if l.length < 16 then word (bt s (4 * l.length)) (bt s (4 * l.length + 1)) (bt s (4 * l.length + 2)) (bt s (4 * l.length + 3))
  else (l.getD (l.length - 16) 0 + l.getD (l.length - 7) 0 + s0 (l.getD (l.length - 15) 0) + s1 (l.getD (l.length - 2) 0)) % 4294967296
def spreadL (s : ByteArray) : Nat → List Int
  | 0 => []
  | k + 1 => spreadL s k ++ [nextW s (spreadL s k)]
theorem spreadL_length (s : ByteArray) (k : Nat) : (spreadL s k).length = k := by
  induction k with
  | zero => rfl
  | succ k ih => simp [spreadL, ih]
theorem nextW_range (s : ByteArray) (l : List Int) : 0 ≤ nextW s l ∧ nextW s l < 4294967296 := by
  unfold nextW; split
  · exact word_range s _ _ _ _
  · omega
theorem spreadL_range (s : ByteArray) (k : Nat) : ∀ x ∈ spreadL s k, 0 ≤ x ∧ x < 4294967296 := by
  induction k with
  | zero => intro x h; simp [spreadL] at h
  | succ k ih =>
    intro x h
    simp only [spreadL, List.mem_append, List.mem_singleton] at h
    rcases h with h | rfl
    · exact ih x h
    · exact nextW_range s _
theorem getD_range (l : List Int) (h : ∀ x ∈ l, 0 ≤ x ∧ x < 4294967296) (i : Nat) : 0 ≤ l.getD i 0 ∧ l.getD i 0 < 4294967296 := by
  rcases Nat.lt_or_ge i l.length with hi | hi
  · rw [List.getD_eq_getElem?_getD, List.getElem?_eq_getElem hi]; exact h _ (List.getElem_mem hi)
  · rw [List.getD_eq_getElem?_getD, List.getElem?_eq_none hi]; exact ⟨by decide, by decide⟩
def cells (l : List Int) : Array Value := (l.map (Value.int .u32)).toArray
def pad64 (l : List Int) : List Int := l ++ List.replicate (64 - l.length) 0
theorem pad64_set (l : List Int) (v : Int) (h : l.length < 64) : (pad64 l).set l.length v = pad64 (l ++ [v]) := by
  unfold pad64
  obtain ⟨m, hm⟩ : ∃ m, 64 - l.length = m + 1 := ⟨63 - l.length, by omega⟩
  rw [hm, List.replicate_succ, List.set_append]
  simp only [Nat.lt_irrefl, if_false, Nat.sub_self, List.set_cons_zero, List.length_append, List.length_cons, List.length_nil]
  rw [show 64 - (l.length + (0 + 1)) = m from by omega, List.append_assoc]; rfl
theorem cells_get (l : List Int) (i : Nat) (h : i < l.length) : (cells l)[i]? = some (.int .u32 (l.getD i 0)) := by
  unfold cells; simp [h]
theorem cells_set (l : List Int) (i : Nat) (v : Int) : (cells l).setIfInBounds i (.int .u32 v) = cells (l.set i v) := by
  unfold cells; simp
theorem pad64_length (l : List Int) (h : l.length ≤ 64) : (pad64 l).length = 64 := by unfold pad64; simp; omega
theorem pad64_getD (l : List Int) (i : Nat) (h : i < l.length) : (pad64 l).getD i 0 = l.getD i 0 := by
  unfold pad64; rw [List.getD_eq_getElem?_getD, List.getD_eq_getElem?_getD, List.getElem?_append_left h]
/-- A block of numbers: cell i. -/
theorem cell_at {w : World} {g : Nat} {l : List Int} {t : TypeId} (h : w.heap[g]? = some (.cells (cells l) t (0, 0))) (i : Nat) (hi : i < l.length) : w.cell? ⟨g, i, none⟩ = some (.int .u32 (l.getD i 0)) := by
  rw [cell_of_row w g i _ t _ h, cells_get l i hi]
theorem set_at {w : World} {g : Nat} {l : List Int} {t : TypeId} (h : w.heap[g]? = some (.cells (cells l) t (0, 0))) (i : Nat) (v : Int) : (w.setCell ⟨g, i, none⟩ (.int .u32 v)).heap[g]? = some (.cells (cells (l.set i v)) t (0, 0)) := by
  rw [heap_setCell_same w g i _ t _ h, cells_set]
theorem bt_extract (s : ByteArray) (a b j : Nat) (h1 : a + j < b) (h2 : b ≤ s.size) : bt (s.extract a b) (j : Int) = bt s ((a + j : Nat) : Int) := by
  unfold bt
  rw [dif_pos (by rw [ByteArray.size_extract]; simp; omega), dif_pos (by simp; omega)]
  simp only [ByteArray.getElem_extract, Int.toNat_natCast]
theorem heap_drewN (w : World) (n : Nat) : (w.drewN n).heap = w.heap := rfl

theorem cells_size (l : List Int) : (cells l).size = l.length := by unfold cells; simp
theorem cells_one (l : List Int) : (cells l).all (·.oneCell') = true := by
  rw [Array.all_eq_true_iff_forall_mem]
  intro v hv
  unfold cells at hv
  simp only [List.mem_toArray, List.mem_map] at hv
  obtain ⟨x, _, rfl⟩ := hv
  rfl
/-- A region that draws its order: what reads and calls quietly first, then a forced tail; the world behind the draw under a name of its own. -/
theorem region_tail {P : Program} {id : Nat} {Q : Exit → Act → World → Prop} {a : Act} {w : World} {l : List Oper} (n : Nat) (hm : P.follows .mixedOrders = true) (hB : Region.lexTailB .any l.toArray n = true)
    (h : ∀ w2 : World, Hid (w2 = w.drew) → wpStill P l.toArray w2 (fun a' => wpList P l.toArray Q (l.drop n) a' w2) (l.take n) a) : (Code.region id l.toArray true).wp P Q a w :=
  wp_region_still_tail n hm hB (h _ rfl)
/-- A whole array stored into the block that was laid last. -/
theorem wpList_store_new {P : Program} {ops : Array Oper} {rest : List Oper} {o : Oper} {a : Act} {w : World} {Q : Exit → Act → World → Prop} (hgd : o.guard = none) (ty : TypeId) (x y : Operand) (ho : o.op = .store ty x y)
    (g : Nat) (hgs : g = w.heap.size) (C : Array Value) (hx : a.eval x = .pointer (some ⟨g, 0, none⟩)) (hy : a.eval y = .agg C)
    (t : TypeId) (old : Array Value) (hi : (P.info? ty).map (·.size) = some C.size)
    (hold : old.size = C.size) (h1 : C.all (·.oneCell') = true)
    (h : wpList P ops Q rest (a.put o.dst undef) (w.alloc (.cells C t))) : wpList P ops Q (o :: rest) a (w.alloc (.cells old t)) := by
  subst hgs
  refine wpList_store_row hgd ty x y ho w.heap.size C hx hy t old (heap_alloc_new _ _) hi hold h1 ?_
  rw [World.setRow_alloc_new]; exact h
theorem run_index_u32 (cs : Array Value) (n : Nat) (t : TypeId) (ht : Tryd.prog.underlying t = some (.array n 50)) (i : Nat) (hi : i < n) (v : Value) (hv : cs[i]? = some v) (wx : World) :
    (Instr.index t (.agg cs) (.int .i64 (i : Int))).run Tryd.prog wx = .ok v wx := by
  simp [Instr.index, run_underlying ht, asIntOf, hi, part, Tryd.sizeOf50, Tryd.isAgg50, hv, go_sem]
theorem get_block (s : ByteArray) (k : Nat) (hs : s.size = 64) (h : k < 16) : getS (s.extract (4 * k) (4 * k + 4)) = nextW s (spreadL s k) := by
  rw [get4 _ (by rw [ByteArray.size_extract]; omega)]
  unfold nextW
  rw [spreadL_length, if_pos h]
  have e0 := bt_extract s (4 * k) (4 * k + 4) 0 (by omega) (by omega)
  have e1 := bt_extract s (4 * k) (4 * k + 4) 1 (by omega) (by omega)
  have e2 := bt_extract s (4 * k) (4 * k + 4) 2 (by omega) (by omega)
  have e3 := bt_extract s (4 * k) (4 * k + 4) 3 (by omega) (by omega)
  simp only [Nat.add_zero] at e0
  have f0 : ((0 : Nat) : Int) = 0 := rfl
  have f1 : ((1 : Nat) : Int) = 1 := rfl
  have f2 : ((2 : Nat) : Int) = 2 := rfl
  have f3 : ((3 : Nat) : Int) = 3 := rfl
  rw [f0] at e0; rw [f1] at e1; rw [f2] at e2; rw [f3] at e3
  rw [e0, e1, e2, e3]
  congr 1
theorem right_c (x : Int) (h : 0 ≤ x ∧ x < 4294967296) (j : Nat) (h1 : 1 ≤ j) (h2 : j ≤ 31) (w : World) : Calls Tryd.prog 41 #[.int .u32 x, .int .i64 (j : Int)] w fun e w' => e = .returned (.int .u32 (rotr x j)) ∧ w' = w :=
  bits_Right.same x j _ w (right_f x h j h1 h2)
theorem right_c2 (x : Int) (h : 0 ≤ x ∧ x < 4294967296) (w : World) : Calls Tryd.prog 41 #[.int .u32 x, .int .i64 2] w fun e w' => e = .returned (.int .u32 (rotr x 2)) ∧ w' = w := right_c x h 2 (by omega) (by omega) w
theorem right_c6 (x : Int) (h : 0 ≤ x ∧ x < 4294967296) (w : World) : Calls Tryd.prog 41 #[.int .u32 x, .int .i64 6] w fun e w' => e = .returned (.int .u32 (rotr x 6)) ∧ w' = w := right_c x h 6 (by omega) (by omega) w
theorem right_c7 (x : Int) (h : 0 ≤ x ∧ x < 4294967296) (w : World) : Calls Tryd.prog 41 #[.int .u32 x, .int .i64 7] w fun e w' => e = .returned (.int .u32 (rotr x 7)) ∧ w' = w := right_c x h 7 (by omega) (by omega) w
theorem right_c11 (x : Int) (h : 0 ≤ x ∧ x < 4294967296) (w : World) : Calls Tryd.prog 41 #[.int .u32 x, .int .i64 11] w fun e w' => e = .returned (.int .u32 (rotr x 11)) ∧ w' = w := right_c x h 11 (by omega) (by omega) w
theorem right_c13 (x : Int) (h : 0 ≤ x ∧ x < 4294967296) (w : World) : Calls Tryd.prog 41 #[.int .u32 x, .int .i64 13] w fun e w' => e = .returned (.int .u32 (rotr x 13)) ∧ w' = w := right_c x h 13 (by omega) (by omega) w
theorem right_c17 (x : Int) (h : 0 ≤ x ∧ x < 4294967296) (w : World) : Calls Tryd.prog 41 #[.int .u32 x, .int .i64 17] w fun e w' => e = .returned (.int .u32 (rotr x 17)) ∧ w' = w := right_c x h 17 (by omega) (by omega) w
theorem right_c18 (x : Int) (h : 0 ≤ x ∧ x < 4294967296) (w : World) : Calls Tryd.prog 41 #[.int .u32 x, .int .i64 18] w fun e w' => e = .returned (.int .u32 (rotr x 18)) ∧ w' = w := right_c x h 18 (by omega) (by omega) w
theorem right_c19 (x : Int) (h : 0 ≤ x ∧ x < 4294967296) (w : World) : Calls Tryd.prog 41 #[.int .u32 x, .int .i64 19] w fun e w' => e = .returned (.int .u32 (rotr x 19)) ∧ w' = w := right_c x h 19 (by omega) (by omega) w
theorem right_c22 (x : Int) (h : 0 ≤ x ∧ x < 4294967296) (w : World) : Calls Tryd.prog 41 #[.int .u32 x, .int .i64 22] w fun e w' => e = .returned (.int .u32 (rotr x 22)) ∧ w' = w := right_c x h 22 (by omega) (by omega) w
theorem right_c25 (x : Int) (h : 0 ≤ x ∧ x < 4294967296) (w : World) : Calls Tryd.prog 41 #[.int .u32 x, .int .i64 25] w fun e w' => e = .returned (.int .u32 (rotr x 25)) ∧ w' = w := right_c x h 25 (by omega) (by omega) w
theorem below_set {B : Nat} {w w1 : World} (h : Below B w w1) {g : Nat} (hg : B ≤ g) (i : Nat) (v : Value) : Below B w (w1.setCell ⟨g, i, none⟩ v) := h.setCell hg v
theorem spread_next (s : ByteArray) (k : Nat) (v : Int) (hv : v = nextW s (spreadL s k)) (hk : k < 64) {w : World} {g : Nat} (h : w.heap[g]? = some (.cells (cells (pad64 (spreadL s k))) 56 (0, 0))) :
    (w.setCell ⟨g, k, none⟩ (.int .u32 v)).heap[g]? = some (.cells (cells (pad64 (spreadL s (k + 1)))) 56 (0, 0)) := by
  rw [set_at h k v]
  have e := pad64_set (spreadL s k) v (by rw [spreadL_length]; exact hk)
  rw [spreadL_length] at e
  rw [e, hv]; rfl
set_option maxRecDepth 100000 in
theorem spread_c (s : ByteArray) (hs : s.size = 64) (w : World) :
    Calls Tryd.prog 40 #[.string s] w fun e w' => e = .returned (.agg (cells (spreadL s 64))) ∧ Below w.heap.size w w' := by
  go_enter Tryd.func40, Tryd.ntmps40
  go_wp2
  have hss := Lib.hid hs
  clear hs
  have hs1 : 64 ≤ s.size := by have := hss.out; omega
  have hs2 : s.size ≤ 64 := by have := hss.out; omega
  go_loopw [6] (fun i wr => ∃ k : Nat, k ≤ 64 ∧ i = .int .i64 k ∧ Hid (wr.heap[w.heap.size]? = some (.cells (cells (pad64 (spreadL s k))) 56 (0, 0))) ∧ Below w.heap.size w wr) (fun i _ => 64 - (intOf i).toNat)
  case atStart => exact ⟨0, by omega, rfl, heap_alloc_new _ _, (Below.refl _ _).alloc (Nat.le_refl _) _⟩
  case round =>
    obtain ⟨k, hk, rfl, hb, hB⟩ := hrel
    have HB := Lib.hid hB
    have hsz := hB.size
    clear hB
    have lk := spreadL_length s k
    have lp := pad64_length (spreadL s k) (by omega)
    by_cases h64 : k < 64
    · by_cases h16 : k < 16
      · have hsl : ∀ wx, (Instr.slice 9 (.string s) (some (.int .i64 (4 * (k : Int)))) (some (.int .i64 (4 * (k : Int) + 4))) none).run Tryd.prog wx = .ok (.string (s.extract (4 * k) (4 * k + 4))) wx := by
          intro wx
          have e1 : (4 * (k : Int)) = ((4 * k : Nat) : Int) := by omega
          have e2 : (4 * (k : Int) + 4) = ((4 * k + 4 : Nat) : Int) := by omega
          rw [e2, e1]
          exact run_slice_string (P := Tryd.prog) wx 9 s .i64 .i64 _ _ Tryd.underlying9 (by omega) (by omega) (by omega)
        have gb := bits_Get.calls 10 (s.extract (4 * k) (4 * k + 4)) _ wr (by rw [get_f (s.extract (4 * k) (4 * k + 4)) 0, get_block s k hss.out h16])
        have gr := nextW_range s (spreadL s k)
        obtain ⟨v, hv⟩ : ∃ v, v = nextW s (spreadL s k) := ⟨_, rfl⟩
        rw [← hv] at gb gr
        have Hv := Lib.hid hv
        have Gb := Lib.hid gb
        clear hv gb lk lp
        go_wp2_with fail
        refine Gb.out.mono ?_; rintro e w1 ⟨rfl, b1⟩
        have hb1 : w1.heap[w.heap.size]? = some (.cells (cells (pad64 (spreadL s k))) 56 (0, 0)) := (b1.block _ (Array.getElem?_eq_some_iff.1 hb.out).1).trans hb.out
        have Hb1 := Lib.hid hb1
        have hc1 := cell_at hb1 k (by rw [pad64_length _ (by rw [spreadL_length]; omega)]; omega)
        have hf1 := frozen_of_row w1 w.heap.size k _ 56 hb1
        clear hb1
        go_wp2_with fail
        exact ⟨⟨k + 1, by omega, by go_num, spread_next s k v Hv.out h64 Hb1.out, below_set (below_then HB.out hsz b1) (Nat.le_refl _) _ _⟩, by simp [intOf]; omega⟩
      · have i1 : (15 : Int) ≤ k := by omega
        have i7 : (7 : Int) ≤ k := by omega
        obtain ⟨x, hx⟩ : ∃ x, x = (spreadL s k).getD (k - 15) 0 := ⟨_, rfl⟩
        obtain ⟨y, hy⟩ : ∃ y, y = (spreadL s k).getD (k - 2) 0 := ⟨_, rfl⟩
        obtain ⟨x6, hx6⟩ : ∃ x, x = (spreadL s k).getD (k - 16) 0 := ⟨_, rfl⟩
        obtain ⟨x7, hx7⟩ : ∃ x, x = (spreadL s k).getD (k - 7) 0 := ⟨_, rfl⟩
        have c1 := cell_at hb.out (k - 15) (by omega)
        have c2 := cell_at hb.out (k - 2) (by omega)
        have c3 := cell_at hb.out (k - 16) (by omega)
        have c4 := cell_at hb.out (k - 7) (by omega)
        have c5 := cell_at hb.out k (by omega)
        have f5 := frozen_of_row wr w.heap.size k _ 56 hb.out
        rw [pad64_getD _ _ (by omega), ← hx] at c1
        rw [pad64_getD _ _ (by omega), ← hy] at c2
        rw [pad64_getD _ _ (by omega), ← hx6] at c3
        rw [pad64_getD _ _ (by omega), ← hx7] at c4
        have rx := getD_range _ (spreadL_range s k) (k - 15)
        have ry := getD_range _ (spreadL_range s k) (k - 2)
        have r6 := getD_range _ (spreadL_range s k) (k - 16)
        have r7 := getD_range _ (spreadL_range s k) (k - 7)
        rw [← hx] at rx; rw [← hy] at ry; rw [← hx6] at r6; rw [← hx7] at r7
        have Hx := Lib.hid hx; have Hy := Lib.hid hy; have Hx6 := Lib.hid hx6; have Hx7 := Lib.hid hx7
        clear hx hy hx6 hx7 lk lp
        go_wp2_with fail
        go_quiet (fail)
        go_wp2_with fail
        have q7 := Lib.hid (right_c7 x rx); have q18 := Lib.hid (right_c18 x rx); have q17 := Lib.hid (right_c17 y ry); have q19 := Lib.hid (right_c19 y ry)
        refine region_tail 29 (by kernel_rfl) (by kernel_rfl) ?_
        intro w2 hw2
        simp only [List.take_succ_cons, List.take_zero, List.drop_succ_cons, List.drop_zero]
        have hb2 : w2.heap[w.heap.size]? = some (.cells (cells (pad64 (spreadL s k))) 56 (0, 0)) := by rw [hw2.out]; exact hb.out
        have B2 : Below w.heap.size w w2 := by rw [hw2.out]; exact below_drew (pw_below_drewN HB.out nq)
        have HB2 := Lib.hid B2
        have Hb2 := Lib.hid hb2
        have lp2 := pad64_length (spreadL s k) (by rw [spreadL_length]; omega)
        have d3 := cell_at hb2 (k - 16) (by omega)
        have d4 := cell_at hb2 (k - 7) (by omega)
        have d5 := cell_at hb2 k (by omega)
        have g5 := frozen_of_row w2 w.heap.size k _ 56 hb2
        rw [pad64_getD _ _ (by rw [spreadL_length]; omega), ← Hx6.out] at d3
        rw [pad64_getD _ _ (by rw [spreadL_length]; omega), ← Hx7.out] at d4
        have a16 : IntKind.i64.wrap ((k : Int) - 16) = (k : Int) - 16 := IntWalk.i64_in _ (by omega)
        have a7 : IntKind.i64.wrap ((k : Int) - 7) = (k : Int) - 7 := IntWalk.i64_in _ (by omega)
        have b16 : (0 ≤ (k : Int) - 16) = True := eq_true (by omega)
        have b7 : (0 ≤ (k : Int) - 7) = True := eq_true (by omega)
        have l16 : ((k : Int) - 16 < 64) = True := eq_true (by omega)
        have l7 : ((k : Int) - 7 < 64) = True := eq_true (by omega)
        have t16 : ((k : Int) - 16).toNat = k - 16 := by omega
        have t7 : ((k : Int) - 7).toNat = k - 7 := by omega
        clear hb2 lp2 B2 c1 c2 c3 c4 c5 f5
        repeat still_step
        still_call (q7.out _)
        repeat still_step
        still_call (q18.out _)
        repeat still_step
        still_call (q17.out _)
        repeat still_step
        still_call (q19.out _)
        repeat still_step
        try refine wpStill_nil ?_
        go_wp2_with fail
        exact ⟨⟨k + 1, by omega, by go_num, spread_next s k _ (by unfold nextW; rw [spreadL_length, if_neg h16, ← Hx6.out, ← Hx7.out, ← Hx.out, ← Hy.out]; rfl) h64 Hb2.out, below_set HB2.out (Nat.le_refl _) _ _⟩, by simp [intOf]; omega⟩
    · obtain rfl : k = 64 := by omega
      have e64 : pad64 (spreadL s 64) = spreadL s 64 := by unfold pad64; rw [lk]; simp
      have hb4 := hb.out
      rw [e64] at hb4
      obtain ⟨C, hC⟩ : ∃ C, C = cells (spreadL s 64) := ⟨_, rfl⟩
      have HC := Lib.hid hC
      rw [← hC] at hb4
      have hb5 := Lib.hid hb4
      have H1 := Lib.hid (show C.all (·.oneCell') = true by rw [hC]; exact cells_one _)
      have hst : C.size = 64 := by rw [hC, cells_size, lk]
      have Hst := Lib.hid hst
      have Hi1 := Lib.hid (show (Tryd.prog.info? 56).map (·.size) = some C.size by rw [hst]; kernel_rfl)
      clear lk lp hst e64 hb hb4 hC
      go_wp2_with (first | (refine wpList_load_row rfl 56 _ rfl w.heap.size rfl 56 _ (0, 0) _ hb5.out Tryd.underlying56 rfl Hi1.out ?_) | (refine wpList_store_row rfl 56 _ _ rfl w.heap.size _ rfl rfl 56 _ hb5.out Hi1.out rfl H1.out ?_))
      rw [setRow_self _ _ _ _ _ hb5.out]
      exact bodyPost_ret (v := .agg C) (results_cell_row (p := 2) (ty := 56) rfl _ _ w.heap.size 56 C (0, 0) _ rfl hb5.out Tryd.underlying56 rfl Hi1.out) rfl ⟨by rw [HC.out], HB.out⟩
end Go.Proofs.YtngkedoaijlnlaaDoor.Fn
