/- sha.Parse as a contract: the 32 bytes that 64 digits give, or none. -/
import Derived.Lib.BufferWrite
import Derived.Lib.Hide
import Derived.Test.YtngkedoaijlnlaaDoorBld
namespace Go.Proofs.YtngkedoaijlnlaaDoor.Fn
open Go.Proofs Go.RowKit Go.Proofs.YtngkedoaijlnlaaDoorW.PrintWords Go.Proofs.YtngkedoaijlnlaaDoorW.PrintLast Go.Proofs.YtngkedoaijlnlaaDoorW.PrintMore
attribute [local go_sem] max2_int min2_int max_two min_two max_three min_three max_four min_four
set_option linter.unusedVariables false
set_option linter.unusedSimpArgs false
def digs : ByteArray := { data := #[48, 49, 50, 51, 52, 53, 54, 55, 56, 57, 97, 98, 99, 100, 101, 102] }
def digit (c : Int) : Int := if 48 ≤ c ∧ c ≤ 57 then c - 48 else if 97 ≤ c ∧ c ≤ 102 then c - 87 else -1
theorem digit_all : ∀ n : Nat, n < 256 → Lib.indexByte [48, 49, 50, 51, 52, 53, 54, 55, 56, 57, 97, 98, 99, 100, 101, 102] n.toUInt8 = digit (n : Int) := by decide +kernel
theorem digit_range (c : Int) : -1 ≤ digit c ∧ digit c ≤ 15 := by unfold digit; repeat (split <;> try omega)
theorem index_c (c : Int) (h : 0 ≤ c ∧ c ≤ 255) (w : World) :
    Calls Tryd.prog 29 #[.string { data := #[48, 49, 50, 51, 52, 53, 54, 55, 56, 57, 97, 98, 99, 100, 101, 102] }, .int .u8 c] w fun e w' => e = .returned (.int .i64 (digit c)) ∧ w' = w := by
  have e := digit_all c.toNat (by omega)
  rw [Int.toNat_of_nonneg h.1] at e
  have k := Tryd.strings_IndexByte { data := #[48, 49, 50, 51, 52, 53, 54, 55, 56, 57, 97, 98, 99, 100, 101, 102] } c w
  rw [e] at k
  exact k
theorem cells8_get (l : List Int) (i : Nat) (h : i < l.length) : (cells8 l)[i]? = some (.int .u8 (l.getD i 0)) := by
  unfold cells8; simp [h]
theorem cells8_set (l : List Int) (i : Nat) (v : Int) : (cells8 l).setIfInBounds i (.int .u8 v) = cells8 (l.set i v) := by
  unfold cells8; simp
theorem cell_at8 {w : World} {g : Nat} {l : List Int} {t : TypeId} (h : w.heap[g]? = some (.cells (cells8 l) t (0, 0))) (i : Nat) (hi : i < l.length) : w.cell? ⟨g, i, none⟩ = some (.int .u8 (l.getD i 0)) := by
  rw [cell_of_row w g i _ t _ h, cells8_get l i hi]
theorem set_at8 {w : World} {g : Nat} {l : List Int} {t : TypeId} (h : w.heap[g]? = some (.cells (cells8 l) t (0, 0))) (i : Nat) (v : Int) : (w.setCell ⟨g, i, none⟩ (.int .u8 v)).heap[g]? = some (.cells (cells8 (l.set i v)) t (0, 0)) := by
  rw [heap_setCell_same w g i _ t _ h, cells8_set]
def zeros32 : List Int := List.replicate 32 0
/-- The bytes that k digits give. -/
def parseL (s : ByteArray) : Nat → List Int
  | 0 => zeros32
  | k + 1 => (parseL s k).set (k / 2) (bits .or .u8 ((parseL s k).getD (k / 2) 0 * 16 % 256) (digit (bt s (k : Int))))
theorem parseL_length (s : ByteArray) (k : Nat) : (parseL s k).length = 32 := by
  induction k with
  | zero => rfl
  | succ k ih => rw [parseL, List.length_set]; exact ih
def allDig (s : ByteArray) (k : Nat) : Bool := (List.range k).all fun i => decide (0 ≤ digit (bt s (i : Int)))
theorem allDig_iff (s : ByteArray) (k : Nat) : allDig s k = true ↔ ∀ i, i < k → 0 ≤ digit (bt s (i : Int)) := by
  unfold allDig; simp
def parseV (s : ByteArray) : Option (List Int) := if s.size = 64 ∧ allDig s 64 = true then some (parseL s 64) else none
theorem parse_none1 (s : ByteArray) (h : s.size ≠ 64) : parseV s = none := by unfold parseV; rw [if_neg (by omega)]
theorem parse_none2 (s : ByteArray) (k : Nat) (hk : k < 64) (h : digit (bt s (k : Int)) < 0) : parseV s = none := by
  unfold parseV; rw [if_neg]; rintro ⟨_, h2⟩; have := (allDig_iff s 64).1 h2 k hk; omega
theorem parse_some (s : ByteArray) (h : s.size = 64) (h2 : ∀ i : Nat, i < 64 → 0 ≤ digit (bt s (i : Int))) : parseV s = some (parseL s 64) := by
  unfold parseV; rw [if_pos ⟨h, (allDig_iff s 64).2 h2⟩]
theorem half_eq (k : Nat) : Int.tdiv (k : Int) 2 = ((k / 2 : Nat) : Int) := by
  rw [Int.tdiv_eq_ediv_of_nonneg (by omega)]; rfl
theorem index_bt (s : ByteArray) (i : Nat) (h : i < s.size) (wx : World) : (Instr.index 9 (.string s) (.int .i64 (i : Int))).run Tryd.prog wx = .ok (.int .u8 (bt s (i : Int))) wx := by
  rw [run_index_string wx 9 s .i64 (i : Int) Tryd.underlying9]
  have e := bt_at s (i : Int) (by simpa using h)
  simp [h, ← e]
theorem results_row_tmp {fn : Func} {p u : Tmp} {ty : TypeId} (h : fn.results = #[.cell p ty, .tmp u]) (tmps : Array Value) (w : World) (g : Nat) (t : TypeId) (cs : Array Value) (fr : Nat × Nat) (d : TypeDesc)
    (hp : tmps.getD p undef = .pointer (some ⟨g, 0, none⟩)) (hg : w.heap[g]? = some (.cells cs t fr))
    (hu : Tryd.prog.underlying ty = some d) (hd : (match d with | .struct _ | .array _ _ => true | _ => false) = true) (hi : (Tryd.prog.info? ty).map (·.size) = some cs.size) (v : Value) (hv : tmps.getD u undef = v) :
    (results fn tmps).run Tryd.prog w = .ok (.tuple #[.agg cs, v]) w := by
  have hp' : tmps[p]?.getD undef = .pointer (some ⟨g, 0, none⟩) := by simpa using hp
  have loadv := run_loadVar_row w g t ty cs fr d hg hu (by cases d <;> simp_all) hi
  have hv' : tmps[u]?.getD undef = v := by simpa using hv
  rw [results_cell_tmp h]
  simp [hp', hv', asAddr, Result.andThen, loadv]
theorem parse_c (s : ByteArray) (w : World) :
    Calls Tryd.prog 13 #[.string s] w fun e w' => e = .returned (.tuple #[.agg (cells8 ((parseV s).getD zeros32)), .bool (parseV s).isSome]) ∧ Below w.heap.size w w' := by
  have HP := Lib.hid (parse_none2 s)
  have HS := Lib.hid (parse_some s)
  by_cases h64 : s.size = 64
  · have ix := Lib.hid fun c h w => index_c c h w
    have n1 : 64 ≤ s.size := by omega
    have n2 : s.size ≤ 64 := by omega
    have H64 := Lib.hid h64
    have c64 : decide ((s.size : Int) = 64) = true := decide_eq_true (by omega)
    have p64 : ((s.size : Int) = 64) = True := eq_true (by omega)
    have n64 : ((s.size : Int) != 64) = false := by simp; omega
    clear h64
    obtain ⟨Z, hZ⟩ : ∃ Z : Array Value, Z = cells8 zeros32 := ⟨_, rfl⟩
    have HZ := Lib.hid hZ
    have sZ : Z.size = 32 := by rw [hZ, cells8_size]; rfl
    clear hZ
    go_enter Tryd.func13, Tryd.ntmps13
    go_wp2_with fail
    have A0 : Hid (((w.alloc (.cells (cells8 zeros32) 24)).alloc (.cells (cells8 zeros32) 24)).heap[w.heap.size]? = some (.cells Z 24 (0, 0))) := Lib.hid (by rw [HZ.out]; exact heap_keep _ (heap_alloc_new _ _))
    have A1 : Hid (((w.alloc (.cells (cells8 zeros32) 24)).alloc (.cells (cells8 zeros32) 24)).heap[w.heap.size + 1]? = some (.cells (cells8 (parseL s 0)) 24 (0, 0))) := Lib.hid (heap_new2 _ _ _)
    have B0 : Hid (Below w.heap.size w ((w.alloc (.cells (cells8 zeros32) 24)).alloc (.cells (cells8 zeros32) 24))) := Lib.hid (below_alloc (below_alloc (Below.refl _ _) _) _)
    go_loopw [13] (fun i wr => ∃ k : Nat, k ≤ 64 ∧ i = .int .i64 k ∧ Hid (∀ i : Nat, i < k → 0 ≤ digit (bt s (i : Int))) ∧ Hid (wr.heap[w.heap.size]? = some (.cells Z 24 (0, 0))) ∧ Hid (wr.heap[w.heap.size + 1]? = some (.cells (cells8 (parseL s k)) 24 (0, 0))) ∧ Hid (Below w.heap.size w wr)) (fun i _ => 64 - (intOf i).toNat)
    case atStart => exact ⟨0, by omega, rfl, Lib.hid (by omega), A0, A1, B0⟩
    case round =>
      clear A0 A1 B0
      obtain ⟨k, hk, rfl, HA, A0, A1, HB⟩ := hrel
      by_cases hk64 : k < 64
      · obtain ⟨c, hc⟩ : ∃ c, c = bt s (k : Int) := ⟨_, rfl⟩
        have rc := bt_range s (k : Int)
        rw [← hc] at rc
        obtain ⟨d, hd⟩ : ∃ d, d = digit c := ⟨_, rfl⟩
        have ic := ix.out c rc
        rw [← hd] at ic
        have rd := digit_range c
        rw [← hd] at rd
        have Ic := Lib.hid ic
        have Hd := Lib.hid hd
        have Hc := Lib.hid hc
        have hix : ∀ wx, (Instr.index 9 (.string s) (.int .i64 (k : Int))).run Tryd.prog wx = .ok (.int .u8 c) wx := fun wx => by rw [hc]; exact index_bt s k (by omega) wx
        clear ic hd hc ix
        by_cases hneg : d < 0
        · have hN := HP.out k hk64 (by rw [← Hc.out, ← Hd.out]; exact hneg)
          have iZ := Lib.hid (show (Tryd.prog.info? 24).map (·.size) = some Z.size by rw [sZ]; kernel_rfl)
          have zZ := Lib.hid (show (Tryd.prog.info? 24).map (·.size) = some (cells8 zeros32).size by rw [cells8_size]; kernel_rfl)
          have z1 := Lib.hid (show Z.size = (cells8 zeros32).size by rw [sZ, cells8_size]; rfl)
          have z2 := Lib.hid (show (cells8 zeros32).all (·.oneCell') = true from cells8_one _)
          go_wp2_with fail
          refine (Ic.out _).mono ?_; rintro e w1 ⟨rfl, rfl⟩
          go_wp2_with (refine wpList_store_row rfl 24 (.tmp 2) (.tmp 22) rfl w.heap.size (cells8 zeros32) rfl rfl 24 Z A0.out zZ.out z1.out z2.out ?_)
          have hR := setRow_heap w1 w.heap.size _ (cells8 zeros32) 24 (0, 0) A0.out
          exact bodyPost_ret (v := .tuple #[.agg (cells8 zeros32), .bool false]) (results_row_tmp (p := 2) (u := 3) (ty := 24) rfl _ _ w.heap.size 24 (cells8 zeros32) (0, 0) _ rfl hR Tryd.underlying24 rfl zZ.out (.bool false) rfl) rfl ⟨by rw [hN]; rfl, below_setRow HB.out (Nat.le_refl _) _⟩
        · have dn : 0 ≤ d := by omega
          have hf := half_eq k
          have ki : k / 2 < 32 := by omega
          obtain ⟨j, hj⟩ : ∃ j, j = k / 2 := ⟨_, rfl⟩
          rw [← hj] at hf ki
          have Hj := Lib.hid hj
          clear hj
          have c1 := cell_at8 A1.out j (by rw [parseL_length]; exact ki)
          have f1 := frozen_of_row wr (w.heap.size + 1) j _ 24 A1.out
          obtain ⟨x, hx⟩ : ∃ x, x = (parseL s k).getD j 0 := ⟨_, rfl⟩
          rw [← hx] at c1
          have Hx := Lib.hid hx
          clear hx
          go_wp2_with fail
          refine (Ic.out _).mono ?_; rintro e w1 ⟨rfl, rfl⟩
          go_wp2_with fail
          refine ⟨?_, by simp [intOf]; omega⟩
          refine ⟨k + 1, by omega, by go_num, ?_, ?_, ?_, Lib.hid (below_set HB.out (by omega) _ _)⟩
          · refine Lib.hid fun i hi => ?_
            rcases Nat.lt_or_ge i k with h1 | h1
            · exact HA.out i h1
            · obtain rfl : i = k := by omega
              rw [← Hc.out, ← Hd.out]; exact dn
          · exact Lib.hid ((heap_setCell_other _ _ _ _ (by simp)).trans A0.out)
          · have q := set_at8 A1.out j (bits .or .u8 (x * 16 % 256) d)
            rw [Hx.out, Hd.out, Hc.out, Hj.out] at q
            exact Lib.hid (by rw [Hx.out, Hd.out, Hc.out, Hj.out]; exact q)
      · obtain rfl : k = 64 := by omega
        have hS := HS.out H64.out HA.out
        obtain ⟨D, hD⟩ : ∃ D, D = cells8 (parseL s 64) := ⟨_, rfl⟩
        have sD : D.size = 32 := by rw [hD, cells8_size, parseL_length]
        have HiD := Lib.hid (show (Tryd.prog.info? 24).map (·.size) = some D.size by rw [sD]; kernel_rfl)
        have HoD := Lib.hid (show D.all (·.oneCell') = true by rw [hD]; exact cells8_one _)
        have hzD := Lib.hid (show Z.size = D.size by rw [sD, sZ])
        rw [← hD] at A1
        have HD := Lib.hid hD
        clear hD sD ix
        go_wp2_with (first | (refine wpList_load_row rfl 24 (.tmp 4) rfl (w.heap.size + 1) rfl 24 D (0, 0) _ A1.out Tryd.underlying24 rfl HiD.out ?_) | (refine wpList_store_row rfl 24 (.tmp 2) (.tmp 35) rfl w.heap.size D rfl rfl 24 Z A0.out HiD.out hzD.out HoD.out ?_))
        have hR := setRow_heap wr w.heap.size _ D 24 (0, 0) A0.out
        exact bodyPost_ret (v := .tuple #[.agg D, .bool true]) (results_row_tmp (p := 2) (u := 3) (ty := 24) rfl _ _ w.heap.size 24 D (0, 0) _ rfl hR Tryd.underlying24 rfl HiD.out (.bool true) rfl) rfl ⟨by rw [hS, Option.getD_some, Option.isSome_some, HD.out], below_setRow HB.out (Nat.le_refl _) D⟩
  · have hN := parse_none1 s h64
    rw [hN]
    have c64 : decide ((s.size : Int) = 64) = false := decide_eq_false (by omega)
    have p64 : ((s.size : Int) = 64) = False := eq_false (by omega)
    have n64 : ((s.size : Int) != 64) = true := by simp; omega
    clear HP HS hN h64
    obtain ⟨Z, hZ⟩ : ∃ Z : Array Value, Z = cells8 zeros32 := ⟨_, rfl⟩
    have sZ : Z.size = 32 := by rw [hZ, cells8_size]; rfl
    clear hZ sZ
    go_enter Tryd.func13, Tryd.ntmps13
    go_wp2_with (first | (refine wpList_load_row rfl 24 (.tmp 4) rfl (w.heap.size + 1) rfl 24 _ (0, 0) _ (heap_new2 _ _ _) Tryd.underlying24 rfl (by kernel_rfl) ?_) | (refine wpList_store_row rfl 24 (.tmp 2) (.tmp 10) rfl w.heap.size _ rfl rfl 24 _ (heap_keep _ (heap_alloc_new _ _)) (by kernel_rfl) rfl (by kernel_rfl) ?_))
    have hR := fun L : Array Value => setRow_heap ((w.alloc (.cells L 24)).alloc (.cells L 24)) w.heap.size _ L 24 (0, 0) (heap_keep _ (heap_alloc_new _ _))
    refine bodyPost_ret (v := .tuple #[.agg _, .bool false]) (results_row_tmp (p := 2) (u := 3) (ty := 24) rfl _ _ w.heap.size 24 _ (0, 0) _ rfl (hR _) Tryd.underlying24 rfl (by kernel_rfl) (.bool false) rfl) rfl ⟨?_, below_setRow (below_alloc (below_alloc (Below.refl _ _) _) _) (Nat.le_refl _) _⟩
    rfl
end Go.Proofs.YtngkedoaijlnlaaDoor.Fn
