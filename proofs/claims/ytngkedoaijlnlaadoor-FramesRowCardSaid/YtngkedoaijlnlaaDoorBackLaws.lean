/- Laws for the walk of ShaBack: arrays compared, guarded loads, one byte put anew. -/
import Derived.Lib.BufferWrite
import Derived.Lib.Hide
import Derived.Stop.BytesEq
import Derived.Test.YtngkedoaijlnlaaDoorBackPlain
namespace Go.Proofs.YtngkedoaijlnlaaDoor.Fn
open Go.Proofs Go.RowKit Go.Proofs.YtngkedoaijlnlaaDoorW.PrintWords Go.Proofs.YtngkedoaijlnlaaDoorW.PrintLast Go.Proofs.YtngkedoaijlnlaaDoorW.PrintMore
attribute [local go_sem] max2_int min2_int max_two min_two max_three min_three max_four min_four
set_option linter.unusedVariables false
set_option linter.unusedSimpArgs false
theorem cells8_u8 (l : List Int) (h : Bytes l) : cells8 l = ((l.map fun x => x.toNat.toUInt8).map Extern.Stop.cell).toArray := by
  unfold cells8
  congr 1
  rw [List.map_map]
  apply List.map_congr_left
  intro x hx
  have r := h x hx
  show Value.int .u8 x = Value.int .u8 ((x.toNat.toUInt8.toNat : Nat) : Int)
  congr 1
  have : x.toNat.toUInt8.toNat = x.toNat := by simp [Nat.toUInt8]; omega
  rw [this]; omega
theorem u8_inj (a b : List Int) (ha : Bytes a) (hb : Bytes b) : ((a.map fun x => x.toNat.toUInt8) == (b.map fun x => x.toNat.toUInt8)) = decide (a = b) := by
  rw [Bool.eq_iff_iff]
  simp only [beq_iff_eq, decide_eq_true_eq]
  constructor
  · intro h
    have hl : a.length = b.length := by simpa using congrArg List.length h
    apply List.ext_getElem hl
    intro i h1 h2
    have e : (a.map fun x => x.toNat.toUInt8)[i]? = (b.map fun x => x.toNat.toUInt8)[i]? := by rw [h]
    rw [List.getElem?_map, List.getElem?_map, List.getElem?_eq_getElem h1, List.getElem?_eq_getElem h2] at e
    simp only [Option.map_some, Option.some.injEq] at e
    have e2 := congrArg UInt8.toNat e
    have ra := ha _ (List.getElem_mem h1)
    have rb := hb _ (List.getElem_mem h2)
    simp [Nat.toUInt8] at e2
    omega
  · rintro rfl; rfl
theorem equal_bytes (a b : List Int) (la : a.length = 32) (lb : b.length = 32) (ha : Bytes a) (hb : Bytes b) (wx : World) :
    (Op.equalIn 10000 24 (.agg (cells8 a)) (.agg (cells8 b))).run Tryd.prog wx = .ok (decide (a = b)) wx := by
  rw [cells8_u8 a ha, cells8_u8 b hb, run_equalIn_bytes wx 9998 24 5 32 Tryd.underlying24 Tryd.underlying5 Tryd.sizeOf5 _ _ (by simpa using la) (by simpa using lb), u8_inj a b ha hb]
theorem slice_mid (s : ByteArray) (a b : Nat) (ha : a ≤ b) (hb : b ≤ s.size) (wx : World) : (Instr.slice 9 (.string s) (some (.int .i64 (a : Int))) (some (.int .i64 (b : Int))) none).run Tryd.prog wx = .ok (.string (s.extract a b)) wx :=
  run_slice_string (P := Tryd.prog) wx 9 s .i64 .i64 a b Tryd.underlying9 (by omega) (by omega) (by omega)
/-- One byte's text: what the conversion of the slice of one byte gives. -/
def oneB (x : Int) : ByteArray := ⟨#[x.toNat.toUInt8]⟩
/-- The text with byte k put anew. -/
def putU (T : ByteArray) (k : Nat) (x : Int) : ByteArray := T.extract 0 k ++ oneB x ++ T.extract (k + 1) 64
theorem wpList_load_on {P : Program} {ops : Array Oper} {rest : List Oper} {o : Oper} {a : Act} {w : World} {Q : Exit → Act → World → Prop} (hw : Region.wanted o (yielded ops a.tmps) = true) (ty : TypeId) (x : Operand) (ho : o.op = .load ty x)
    (g : Nat) (hx : a.eval x = .pointer (some ⟨g, 0, none⟩)) (t : TypeId) (cs : Array Value) (fr : Nat × Nat) (d : TypeDesc) (hg : w.heap[g]? = some (.cells cs t fr))
    (hu : P.underlying ty = some d) (hd : (match d with | .struct _ | .array _ _ => true | _ => false) = true) (hi : (P.info? ty).map (·.size) = some cs.size)
    (h : wpList P ops Q rest (a.put o.dst (.agg cs)) w) : wpList P ops Q (o :: rest) a w :=
  wpList_step fun K hK => by
    rw [if_pos hw]
    exact wp_load_row ty x ho g hx t cs fr d hg hu hd hi (hK _ _ h)
theorem conv_one (W : World) (g : Nat) (x : Int) (h : 0 ≤ x ∧ x < 256) (hc : W.cell? ⟨g, 0, none⟩ = some (.int .u8 x)) : (convert 32 9 (.slice (some ⟨g, 0, none⟩) 1 1)).run Tryd.prog W = .ok (.string (oneB x)) W := by
  have e : (((x.toNat.toUInt8).toNat : Nat) : Int) = x := by
    have : x.toNat.toUInt8.toNat = x.toNat := by simp [Nat.toUInt8]; omega
    rw [this]; omega
  refine run_convert_bytes_back (P := Tryd.prog) W 32 9 5 ⟨g, 0, none⟩ 1 [x.toNat.toUInt8] Tryd.underlying32 Tryd.underlying5 Tryd.underlying9 ?_
  intro j hj
  have : j = 0 := by simp at hj; omega
  subst this
  show W.cell? ⟨g, 0, none⟩ = _
  rw [hc]
  simp only [List.getElem_cons_zero]
  rw [e]
theorem wpStill_load_on {P : Program} {ops : Array Oper} {rest : List Oper} {o : Oper} {a : Act} {w : World} {Q : Act → Prop} (hw : Region.wanted o (yielded ops a.tmps) = true) (ty : TypeId) (x : Operand) (ho : o.op = .load ty x)
    (g : Nat) (hx : a.eval x = .pointer (some ⟨g, 0, none⟩)) (t : TypeId) (cs : Array Value) (fr : Nat × Nat) (d : TypeDesc) (hg : w.heap[g]? = some (.cells cs t fr))
    (hu : P.underlying ty = some d) (hd : (match d with | .struct _ | .array _ _ => true | _ => false) = true) (hi : (P.info? ty).map (·.size) = some cs.size)
    (h : wpStill P ops w Q rest (a.put o.dst (.agg cs))) : wpStill P ops w Q (o :: rest) a := by
  refine wpStill_step (fun K hK => ?_)
  rw [if_pos hw]
  unfold Oper.still execOp
  simp only [ho, hx, Instr.loadAt, Instr.sureAddr, Sem.run_bind, Sem.run_pure, Result.andThen_ok, run_loadVar_row w g t ty cs fr d hg hu hd hi]
  exact (Oper.stillUpon_value o a w K _).mpr (hK _ h)
theorem wpStill_no {P : Program} {ops : Array Oper} {rest : List Oper} {o : Oper} {a : Act} {w : World} {Q : Act → Prop} (hw : Region.wanted o (yielded ops a.tmps) = false)
    (h : wpStill P ops w Q rest (a.put o.dst undef)) : wpStill P ops w Q (o :: rest) a :=
  wpStill_step fun K hK => by rw [if_neg (by simp [hw])]; exact hK _ h
theorem wpStill_yes {P : Program} {ops : Array Oper} {rest : List Oper} {o : Oper} {a : Act} {w : World} {Q : Act → Prop} (hw : Region.wanted o (yielded ops a.tmps) = true)
    (h : ∀ K : Act → Prop, (∀ a, wpStill P ops w Q rest a → K a) → o.still P a w K) : wpStill P ops w Q (o :: rest) a :=
  wpStill_step fun K hK => by rw [if_pos hw]; exact h K hK
theorem wanted_undef {ops : Array Oper} {o og : Oper} {a : Act} {g : Nat} {u : Bool} {t : Tmp} (hg : o.guard = some (g, u)) (ho : ops[g]? = some og) (hd : og.dst = some t) (hv : a.tmps[t]? = some undef) : Region.wanted o (yielded ops a.tmps) = false := by
  cases u <;> simp_all [Region.wanted, yielded, undef]
theorem putU_list (T : ByteArray) (hT : T.size = 64) (k : Nat) (hk : k < 64) (x : Int) : (putU T k x).data.toList = T.data.toList.set k x.toNat.toUInt8 := by
  have hl : T.data.toList.length = 64 := by simpa using hT
  rw [List.set_eq_take_append_cons_drop, if_pos (by omega)]
  unfold putU oneB
  simp only [ByteArray.data_append, ByteArray.data_extract, Array.toList_append, Array.toList_extract, List.extract_eq_take_drop]
  rw [List.drop_zero, List.take_of_length_le (l := T.data.toList.drop (k + 1)) (by rw [List.length_drop]; omega)]
  simp
theorem bt_of_list (s : ByteArray) (i : Nat) (b : UInt8) (h : s.data.toList[i]? = some b) : bt s (i : Int) = (b.toNat : Nat) := by
  have := bt_list s.data.toList i b h
  exact this
theorem u8_back (x : Int) (r : 0 ≤ x ∧ x < 256) : ((x.toNat.toUInt8.toNat : Nat) : Int) = x := by
  have : x.toNat.toUInt8.toNat = x.toNat := by simp [Nat.toUInt8]; omega
  rw [this]; omega
theorem putU_size (T : ByteArray) (hT : T.size = 64) (k : Nat) (hk : k < 64) (x : Int) : (putU T k x).size = 64 := by
  have hl : T.data.toList.length = 64 := by simpa using hT
  have := congrArg List.length (putU_list T hT k hk x)
  rw [List.length_set, hl] at this
  simpa using this
theorem putU_at (T : ByteArray) (hT : T.size = 64) (k : Nat) (hk : k < 64) (x : Int) (r : 0 ≤ x ∧ x < 256) : bt (putU T k x) (k : Int) = x := by
  have hl : T.data.toList.length = 64 := by simpa using hT
  rw [bt_of_list _ k x.toNat.toUInt8 (by rw [putU_list T hT k hk x, List.getElem?_set_self (by omega)]), u8_back x r]
theorem putU_other (T : ByteArray) (hT : T.size = 64) (k : Nat) (hk : k < 64) (x : Int) (i : Nat) (hi : i < 64) (hne : k ≠ i) : bt (putU T k x) (i : Int) = bt T (i : Int) := by
  have hl : T.data.toList.length = 64 := by simpa using hT
  have e : (putU T k x).data.toList[i]? = some (bt T (i : Int)).toNat.toUInt8 := by
    rw [putU_list T hT k hk x, List.getElem?_set_ne hne]; exact bt_byte T i (by omega)
  have r := bt_range T (i : Int)
  rw [bt_of_list _ i _ e, u8_back _ ⟨r.1, by omega⟩]
theorem odd_no (T : ByteArray) (hT : T.size = 64) (k : Nat) (hk : k < 64) (x : Int) (r : 0 ≤ x ∧ x < 256) (hd : digit x < 0) : parseV (putU T k x) = none :=
  parse_none2 _ k hk (by rw [putU_at T hT k hk x r]; exact hd)
theorem odd_yes (T : ByteArray) (hT : T.size = 64) (hd : ∀ i : Nat, i < 64 → 0 ≤ digit (bt T (i : Int))) (k : Nat) (hk : k < 64) (x : Int) (r : 0 ≤ x ∧ x < 256) (hx : 0 ≤ digit x) : ∃ c, parseV (putU T k x) = some c := by
  refine ⟨_, parse_some _ (putU_size T hT k hk x) (fun i hi => ?_)⟩
  by_cases e : k = i
  · subst e; rw [putU_at T hT k hk x r]; exact hx
  · rw [putU_other T hT k hk x i hi e]; exact hd i hi
theorem digit_lo {x : Int} (h : x < 48) : digit x < 0 := by unfold digit; rw [if_neg (by omega), if_neg (by omega)]; decide
theorem digit_mid {x : Int} (h : 57 < x) (h2 : x < 97) : digit x < 0 := by unfold digit; rw [if_neg (by omega), if_neg (by omega)]; decide
theorem digit_hi {x : Int} (h : 102 < x) : digit x < 0 := by unfold digit; rw [if_neg (by omega), if_neg (by omega)]; decide
theorem digit_num {x : Int} (h : 48 ≤ x) (h2 : x ≤ 57) : 0 ≤ digit x := by unfold digit; rw [if_pos ⟨h, h2⟩]; omega
theorem digit_let {x : Int} (h : 97 ≤ x) (h2 : x ≤ 102) : 0 ≤ digit x := by unfold digit; rw [if_neg (by omega), if_pos ⟨h, h2⟩]; omega
theorem bytes_zeros : Bytes zeros32 := by unfold Bytes; decide +kernel
theorem ne_string {U T : ByteArray} (h : U ≠ T) : (U.toList == T.toList) = false := by
  rw [ByteArray.toList_eq, ByteArray.toList_eq]
  apply beq_eq_false_iff_ne.2
  intro e
  apply h
  apply ByteArray.ext
  exact Array.toList_inj.1 e
theorem parse_length (s : ByteArray) : ((parseV s).getD zeros32).length = 32 := by
  cases e : parseV s with
  | none => rfl
  | some b => exact (parse_back s b e).2.1
end Go.Proofs.YtngkedoaijlnlaaDoor.Fn
