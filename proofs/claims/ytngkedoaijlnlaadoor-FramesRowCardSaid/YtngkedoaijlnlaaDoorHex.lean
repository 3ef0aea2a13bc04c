/- sha.Hex as a contract: two digits for each of 32 bytes. -/
import Derived.Lib.BufferWrite
import Derived.Lib.Hide
import Derived.Test.YtngkedoaijlnlaaDoorParse
namespace Go.Proofs.YtngkedoaijlnlaaDoor.Fn
open Go.Proofs Go.RowKit Go.Proofs.YtngkedoaijlnlaaDoorW.PrintWords Go.Proofs.YtngkedoaijlnlaaDoorW.PrintLast Go.Proofs.YtngkedoaijlnlaaDoorW.PrintMore
attribute [local go_sem] max2_int min2_int max_two min_two max_three min_three max_four min_four
set_option linter.unusedVariables false
set_option linter.unusedSimpArgs false
/-- A digit's byte. -/
def hexd (n : Int) : UInt8 := if n < 10 then (48 + n.toNat).toUInt8 else (87 + n.toNat).toUInt8
theorem hexd_all : ∀ n : Nat, n < 16 → bt digs (n : Int) = (((hexd (n : Int)).toNat : Nat) : Int) := by decide +kernel
theorem index_digs (x : Int) (h0 : 0 ≤ x) (h1 : x < 16) (wx : World) : (Instr.index 9 (.string { data := #[48, 49, 50, 51, 52, 53, 54, 55, 56, 57, 97, 98, 99, 100, 101, 102] }) (.int .u8 x)).run Tryd.prog wx = .ok (.int .u8 ((hexd x).toNat : Nat)) wx := by
  have e := hexd_all x.toNat (by omega)
  rw [Int.toNat_of_nonneg h0] at e
  rw [run_index_string wx 9 _ .u8 x Tryd.underlying9]
  have hs : x < ((ByteArray.mk #[48, 49, 50, 51, 52, 53, 54, 55, 56, 57, 97, 98, 99, 100, 101, 102]).size : Int) := h1
  have e2 := bt_at { data := #[48, 49, 50, 51, 52, 53, 54, 55, 56, 57, 97, 98, 99, 100, 101, 102] } x (by show x.toNat < 16; omega)
  rw [dif_pos ⟨h0, hs⟩, e2]
  rw [← e]; rfl
/-- The text of the first k bytes. -/
def hexL (h : List Int) : Nat → List UInt8
  | 0 => []
  | k + 1 => hexL h k ++ [hexd (h.getD k 0 / 16)] ++ [hexd (h.getD k 0 % 16)]
theorem hexL_length (h : List Int) (k : Nat) : (hexL h k).length = 2 * k := by
  induction k with
  | zero => rfl
  | succ k ih => simp only [hexL, List.length_append, ih, List.length_cons, List.length_nil]; omega
def hexS (h : List Int) : ByteArray := ⟨(hexL h 32).toArray⟩
theorem and15 (x : Int) (h0 : 0 ≤ x) (h1 : x < 256) : bits .and .u8 x 15 = x % 16 := by
  have k : ∀ n : Nat, n < 256 → bits .and .u8 (n : Int) 15 = (n : Int) % 16 := by decide +kernel
  have := k x.toNat (by omega)
  rwa [Int.toNat_of_nonneg h0] at this
theorem byteCells_snoc (l : List UInt8) (b : UInt8) : Lib.byteCells (l ++ [b]) = Lib.byteCells l ++ [.int .u8 (b.toNat : Nat)] := by
  unfold Lib.byteCells; simp

def Bytes (l : List Int) : Prop := ∀ x ∈ l, 0 ≤ x ∧ x < 256
theorem bytes_getD (l : List Int) (h : Bytes l) (i : Nat) : 0 ≤ l.getD i 0 ∧ l.getD i 0 < 256 := by
  rw [List.getD_eq_getElem?_getD]
  cases e : l[i]? with
  | none => simp
  | some v => exact h v (List.mem_of_getElem? e)
theorem run_index_u8 (cs : Array Value) (n : Nat) (t : TypeId) (ht : Tryd.prog.underlying t = some (.array n 5)) (i : Nat) (hi : i < n) (v : Value) (hv : cs[i]? = some v) (wx : World) :
    (Instr.index t (.agg cs) (.int .i64 (i : Int))).run Tryd.prog wx = .ok v wx := by
  simp [Instr.index, run_underlying ht, asIntOf, hi, part, Tryd.sizeOf5, Tryd.isAgg5, hv, go_sem]
theorem hex_c (h : List Int) (hl : h.length = 32) (hn : Bytes h) (w : World) :
    Calls Tryd.prog 15 #[.agg (cells8 h)] w fun e w' => e = .returned (.string (hexS h)) ∧ Below w.heap.size w w' := by
  obtain ⟨H, hH⟩ : ∃ H, H = cells8 h := ⟨_, rfl⟩
  have sH : H.size = 32 := by rw [hH, cells8_size, hl]
  have HiH := Lib.hid (show (Tryd.prog.info? 24).map (·.size) = some H.size by rw [sH]; kernel_rfl)
  have HoH := Lib.hid (show H.all (·.oneCell') = true by rw [hH]; exact cells8_one _)
  rw [← hH]
  have HH := Lib.hid hH
  have Hl := Lib.hid hl
  have Hn := Lib.hid hn
  clear hH hl hn sH
  go_enter Tryd.func15, Tryd.ntmps15
  go_wp2_with (refine wpList_load_row rfl 24 (.tmp 1) rfl w.heap.size rfl 24 H (0, 0) _ (heap_keep _ (heap_alloc_new _ _)) Tryd.underlying24 rfl HiH.out ?_)
  have A1 : Hid (Lib.IsBuilder 64 5 w.heap.size (w.heap.size + 1) (Lib.byteCells (hexL h 0)) ((w.alloc (.cells H 24)).alloc (.cells #[.pointer none, .slice none 0 0] 64))) := Lib.hid (Or.inl ⟨by omega, .slice none 0 0, heap_new2 _ _ _, World.ownsRow_nil _ _ _ _, by simp [Value.ownBlock]⟩)
  have B0 : Hid (Below w.heap.size w ((w.alloc (.cells H 24)).alloc (.cells #[.pointer none, .slice none 0 0] 64))) := Lib.hid (below_alloc (below_alloc (Below.refl _ _) _) _)
  go_loopw [7] (fun i wr => ∃ k : Nat, k ≤ 32 ∧ i = .int .i64 k ∧ Hid (Lib.IsBuilder 64 5 w.heap.size (w.heap.size + 1) (Lib.byteCells (hexL h k)) wr) ∧ Hid (Below w.heap.size w wr)) (fun i _ => 32 - (intOf i).toNat)
  case atStart => exact ⟨0, by omega, rfl, A1, B0⟩
  case round =>
    clear A1 B0
    obtain ⟨k, hk, rfl, A, HB⟩ := hrel
    by_cases h32 : k < 32
    · have rx := bytes_getD h Hn.out k
      have hix := fun wx => run_index_u8 H 32 24 Tryd.underlying24 k h32 (.int .u8 (h.getD k 0)) (by rw [HH.out]; exact cells8_get h k (by rw [Hl.out]; exact h32)) wx
      have hl := hexL_length h k
      obtain ⟨x, hx⟩ : ∃ x, x = h.getD k 0 := ⟨_, rfl⟩
      rw [← hx] at rx hix
      have i1 := fun wx => index_digs (x / 16) (by omega) (by omega) wx
      have i2 := fun wx => index_digs (x % 16) (by omega) (by omega) wx
      have a15 := and15 x rx.1 rx.2
      have Hx := Lib.hid hx
      have wb1 := Lib.hid (writeByte_c w.heap.size (w.heap.size + 1) (Lib.byteCells (hexL h k)) ((hexd (x / 16)).toNat : Nat) wr A.out (by rw [Lib.byteCells_length, hl]; omega) HB.out.size)
      have wb2 := Lib.hid fun wx (a : Lib.IsBuilder 64 5 w.heap.size (w.heap.size + 1) (Lib.byteCells (hexL h k) ++ [.int .u8 ((hexd (x / 16)).toNat : Nat)]) wx) b => writeByte_c w.heap.size (w.heap.size + 1) (Lib.byteCells (hexL h k) ++ [.int .u8 ((hexd (x / 16)).toNat : Nat)]) ((hexd (x % 16)).toNat : Nat) wx a (by rw [List.length_append, Lib.byteCells_length, hl]; simp; omega) b
      have Hl2 := Lib.hid hl
      clear hl hx
      go_wp2_with fail
      refine wb1.out.mono ?_; rintro e w1 ⟨rfl, c1, b1⟩
      have B1 := Lib.hid (HB.out.trans b1)
      have C1 := Lib.hid c1
      clear c1 b1
      go_wp2_with fail
      refine (wb2.out _ (Or.inr C1.out) B1.out.size).mono ?_; rintro e w2 ⟨rfl, c2, b2⟩
      have B2 := Lib.hid (B1.out.trans b2)
      have C2 := Lib.hid c2
      clear c2 b2
      go_wp2_with fail
      refine ⟨⟨k + 1, by omega, by go_num, Lib.hid (Or.inr ?_), B2⟩, by simp [intOf]; omega⟩
      have q := C2.out
      rw [← byteCells_snoc, ← byteCells_snoc, Hx.out] at q
      exact q
    · obtain rfl : k = 32 := by omega
      have bs := Lib.hid (Tryd.Builder_String_any w.heap.size (w.heap.size + 1) (hexL h 32) wr A.out HB.out.size)
      go_wp2_with fail
      refine bs.out.mono ?_; rintro e w2 ⟨rfl, b2⟩
      have B2 := HB.out.trans b2
      go_wp2_with fail
      go_ret
      exact ⟨rfl, B2⟩
end Go.Proofs.YtngkedoaijlnlaaDoor.Fn
