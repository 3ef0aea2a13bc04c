/- The rules of the operations that touch no memory, for the calculus of steps. No condition; no program in sight. -/
import Derived.Test.YtpggmnomcahijaaDoorKw1
import Derived.Laws.Entries
import Derived.Laws.BitsLemmas
import Derived.Laws.Small
import Derived.Laws.Unary
namespace Go.Proofs.YtpggmnomcahijaaDoor.Kw
open Go Go.Proofs
set_option linter.unusedVariables false
set_option linter.unusedSimpArgs false
section
variable {P : Program} {l : Env} {w : World} {D : Option Tmp} {T : TypeId} {S : String} {F : Array Edge} {g : Option (Nat × Bool)}
theorem R_move {x : Operand} {v : Value} (hx : ev l x = some v) : Runs P l ⟨D, .move x, T, S, F, g⟩ w v w := fun ρ h => by
  show (pure (Next.value (ρ x)) : Sem Next).run P w = _
  rw [h x v hx]; rfl
theorem R_assign {x : Operand} {v : Value} (hx : ev l x = some v) : Runs P l ⟨D, .assign x, T, S, F, g⟩ w v w := fun ρ h => by
  show (pure (Next.value (ρ x)) : Sem Next).run P w = _
  rw [h x v hx]; rfl
theorem R_pickt {c x y : Operand} {v : Value} (hc : ev l c = some (.bool true)) (hx : ev l x = some v) : Runs P l ⟨D, .pick c x y, T, S, F, g⟩ w v w := fun ρ h => by
  unfold execOp; simp [h c _ hc, h x v hx, asBool]
theorem R_pickf {c x y : Operand} {v : Value} (hc : ev l c = some (.bool false)) (hy : ev l y = some v) : Runs P l ⟨D, .pick c x y, T, S, F, g⟩ w v w := fun ρ h => by
  unfold execOp; simp [h c _ hc, h y v hy, asBool]
/-- '&&' and '||' of values that are both there. -/
theorem R_pickb {c x y : Operand} {b p q r : Bool} (hc : ev l c = some (.bool b)) (hx : ev l x = some (.bool p)) (hy : ev l y = some (.bool q)) (he : (bif b then p else q) = r) : Runs P l ⟨D, .pick c x y, T, S, F, g⟩ w (.bool r) w := fun ρ h => by
  subst he
  unfold execOp; cases b <;> simp [h c _ hc, h x _ hx, h y _ hy, asBool]
theorem run_value {s : Sem Value} {v : Value} {w' : World} (h : s.run P w = .ok v w') : (do pure (Next.value (← s)) : Sem Next).run P w = .ok (.value v) w' := by
  simp [h, Result.andThen]
theorem run_skip {s : Sem Unit} {w' : World} (h : s.run P w = .ok () w') : (do s; pure Next.skip : Sem Next).run P w = .ok .skip w' := by
  simp [h, Result.andThen]
def plainV : Value → Bool
  | .nilIface => false
  | .agg _ => false
  | _ => true
theorem noGuard {op : BinOp} (hop : (match op with | .eql => false | .neq => false | _ => true) = true) (t : TypeId) (x y : Operand) (a b : Value) : eqGuard op t x y a b = pure () := by
  unfold eqGuard; cases op <;> simp_all
theorem noGuard' {op : BinOp} (t : TypeId) (x y : Operand) (a b : Value) (ha : plainV a = true) : (eqGuard op t x y a b).run P w = .ok () w := by
  unfold eqGuard
  cases a <;> cases op <;> simp_all [plainV]
theorem run_bin {op : BinOp} {t t2 : TypeId} {x y : Operand} {a b v : Value} (hx : ev l x = some a) (hy : ev l y = some b) (ha : plainV a = true)
    (h : (binOp op t a b).run P w = .ok v w) : Runs P l ⟨D, .binOp op t x y t2, T, S, F, g⟩ w v w := fun ρ hf => by
  show (do pure (Next.value (← (do eqGuard op t x y (ρ x) (ρ y); binOp op t (ρ x) (ρ y)))) : Sem Next).run P w = _
  rw [hf x a hx, hf y b hy]
  refine run_value ?_
  simp [noGuard' (P := P) (w := w) (op := op) t x y a b ha, Result.andThen, h]
section
variable {t t2 : TypeId} {x y : Operand} {k : IntKind} {a b c : Int} {z : Bool}
theorem R_add (hx : ev l x = some (.int k a)) (hy : ev l y = some (.int k b)) (he : k.wrap (a + b) = c) : Runs P l ⟨D, .binOp .add t x y t2, T, S, F, g⟩ w (.int k c) w :=
  run_bin hx hy rfl (by subst he; simp [binOp, Op.intArith])
theorem R_sub (hx : ev l x = some (.int k a)) (hy : ev l y = some (.int k b)) (he : k.wrap (a - b) = c) : Runs P l ⟨D, .binOp .sub t x y t2, T, S, F, g⟩ w (.int k c) w :=
  run_bin hx hy rfl (by subst he; simp [binOp, Op.intArith])
theorem R_mul (hx : ev l x = some (.int k a)) (hy : ev l y = some (.int k b)) (he : k.wrap (a * b) = c) : Runs P l ⟨D, .binOp .mul t x y t2, T, S, F, g⟩ w (.int k c) w :=
  run_bin hx hy rfl (by subst he; simp [binOp, Op.intArith])
theorem R_quo (hx : ev l x = some (.int k a)) (hy : ev l y = some (.int k b)) (hb : b ≠ 0) (he : k.wrap (a.tdiv b) = c) : Runs P l ⟨D, .binOp .quo t x y t2, T, S, F, g⟩ w (.int k c) w :=
  run_bin hx hy rfl (by subst he; simp [binOp, Op.intDiv, hb])
theorem R_rem (hx : ev l x = some (.int k a)) (hy : ev l y = some (.int k b)) (hb : b ≠ 0) (he : a.tmod b = c) : Runs P l ⟨D, .binOp .rem t x y t2, T, S, F, g⟩ w (.int k c) w :=
  run_bin hx hy rfl (by subst he; simp [binOp, Op.intDiv, hb])
theorem R_bits {op : BinOp} (hop : (match op with | .and => true | .or => true | .xor => true | .andNot => true | _ => false) = true) (hx : ev l x = some (.int k a)) (hy : ev l y = some (.int k b)) (he : bits op k a b = c) : Runs P l ⟨D, .binOp op t x y t2, T, S, F, g⟩ w (.int k c) w :=
  run_bin hx hy rfl (by subst he; cases op <;> simp_all [binOp, intBits_and, intBits_or, intBits_xor, intBits_andNot])
theorem R_shl {k2 : IntKind} (hx : ev l x = some (.int k a)) (hy : ev l y = some (.int k2 b)) (hb : 0 ≤ b) (he : k.wrap (a * 2 ^ min b.toNat k.bits) = c) : Runs P l ⟨D, .binOp .shl t x y t2, T, S, F, g⟩ w (.int k c) w :=
  run_bin hx hy rfl (by subst he; simp [binOp, Op.shift, show ¬ b < 0 by omega])
theorem R_shr {k2 : IntKind} (hx : ev l x = some (.int k a)) (hy : ev l y = some (.int k2 b)) (hb : 0 ≤ b) (he : a.fdiv (2 ^ min b.toNat k.bits) = c) : Runs P l ⟨D, .binOp .shr t x y t2, T, S, F, g⟩ w (.int k c) w :=
  run_bin hx hy rfl (by subst he; simp [binOp, Op.shift, show ¬ b < 0 by omega])
theorem R_eqi (hx : ev l x = some (.int k a)) (hy : ev l y = some (.int k b)) (he : decide (a = b) = z) : Runs P l ⟨D, .binOp .eql t x y t2, T, S, F, g⟩ w (.bool z) w :=
  run_bin hx hy rfl (by subst he; simp [binOp, Op.intCmp]; rfl)
theorem R_nei (hx : ev l x = some (.int k a)) (hy : ev l y = some (.int k b)) (he : decide (a = b) = !z) : Runs P l ⟨D, .binOp .neq t x y t2, T, S, F, g⟩ w (.bool z) w :=
  run_bin hx hy rfl (by
    have : (a != b) = z := by cases z <;> simp_all
    subst this; simp [binOp, Op.intCmp])
theorem R_lss (hx : ev l x = some (.int k a)) (hy : ev l y = some (.int k b)) (he : decide (a < b) = z) : Runs P l ⟨D, .binOp .lss t x y t2, T, S, F, g⟩ w (.bool z) w :=
  run_bin hx hy rfl (by subst he; simp [binOp, Op.intCmp])
theorem R_leq (hx : ev l x = some (.int k a)) (hy : ev l y = some (.int k b)) (he : decide (a ≤ b) = z) : Runs P l ⟨D, .binOp .leq t x y t2, T, S, F, g⟩ w (.bool z) w :=
  run_bin hx hy rfl (by subst he; simp [binOp, Op.intCmp])
theorem R_gtr (hx : ev l x = some (.int k a)) (hy : ev l y = some (.int k b)) (he : decide (b < a) = z) : Runs P l ⟨D, .binOp .gtr t x y t2, T, S, F, g⟩ w (.bool z) w :=
  run_bin hx hy rfl (by subst he; simp [binOp, Op.intCmp])
theorem R_geq (hx : ev l x = some (.int k a)) (hy : ev l y = some (.int k b)) (he : decide (b ≤ a) = z) : Runs P l ⟨D, .binOp .geq t x y t2, T, S, F, g⟩ w (.bool z) w :=
  run_bin hx hy rfl (by subst he; simp [binOp, Op.intCmp])
/-- '==' of values that are no numbers and no texts, by what the model's own comparison gives. -/
theorem run_binq {op : BinOp} {u v r : Value} (hx : ev l x = some u) (hy : ev l y = some v) (hg : (eqGuard op t x y u v).run P w = .ok () w)
    (h : (binOp op t u v).run P w = .ok r w) : Runs P l ⟨D, .binOp op t x y t2, T, S, F, g⟩ w r w := fun ρ hf => by
  show (do pure (Next.value (← (do eqGuard op t x y (ρ x) (ρ y); binOp op t (ρ x) (ρ y)))) : Sem Next).run P w = _
  rw [hf x u hx, hf y v hy]
  refine run_value ?_
  simp [hg, Result.andThen, h]
theorem R_eqb {p q : Bool} (hx : ev l x = some (.bool p)) (hy : ev l y = some (.bool q)) (hu : P.underlying t = some .bool) (he : (p == q) = z) : Runs P l ⟨D, .binOp .eql t x y t2, T, S, F, g⟩ w (.bool z) w :=
  run_bin hx hy rfl (by subst he; simp [binOp, Op.equal, Op.maxDepth, run_equalIn_bool (P := P) w 9999 t p q hu, Result.andThen])
theorem R_neb {p q : Bool} (hx : ev l x = some (.bool p)) (hy : ev l y = some (.bool q)) (hu : P.underlying t = some .bool) (he : (p != q) = z) : Runs P l ⟨D, .binOp .neq t x y t2, T, S, F, g⟩ w (.bool z) w :=
  run_bin hx hy rfl (by subst he; simp [binOp, Op.equal, Op.maxDepth, run_equalIn_bool (P := P) w 9999 t p q hu, Result.andThen, bne])
end
theorem R_not {t : TypeId} {x : Operand} {b z : Bool} (hx : ev l x = some (.bool b)) (he : (!b) = z) : Runs P l ⟨D, .unOp .not t x, T, S, F, g⟩ w (.bool z) w := fun ρ h => by
  subst he
  unfold execOp; simp [h x _ hx, Op.unary]
theorem R_neg {t : TypeId} {x : Operand} {k : IntKind} {a c : Int} (hx : ev l x = some (.int k a)) (he : k.wrap (0 - a) = c) : Runs P l ⟨D, .unOp .neg t x, T, S, F, g⟩ w (.int k c) w := fun ρ h => by
  subst he
  unfold execOp; simp [h x _ hx, Op.unary, Op.intArith]
theorem R_xoru {t : TypeId} {x : Operand} {k : IntKind} {a c : Int} (hx : ev l x = some (.int k a)) (he : bits .xor k (if k.signed then -1 else k.max) a = c) : Runs P l ⟨D, .unOp .xor t x, T, S, F, g⟩ w (.int k c) w := fun ρ h => by
  subst he
  unfold execOp; simp [h x _ hx, unary_xor, intBits_xor]

/-! Texts -/
theorem toList_beq (s t : ByteArray) : (s.toList == t.toList) = decide (s = t) := by
  rw [Bool.eq_iff_iff]
  simp only [beq_iff_eq, decide_eq_true_eq, ByteArray.toList_eq]
  constructor
  · intro h; exact ByteArray.ext (Array.toList_inj.1 h)
  · rintro rfl; rfl
theorem R_eqs {t t2 : TypeId} {x y : Operand} {s u : ByteArray} {z : Bool} (hx : ev l x = some (.string s)) (hy : ev l y = some (.string u)) (he : decide (s = u) = z) : Runs P l ⟨D, .binOp .eql t x y t2, T, S, F, g⟩ w (.bool z) w :=
  run_bin hx hy rfl (by subst he; simp [binOp, Op.stringOp, toList_beq])
theorem R_nes {t t2 : TypeId} {x y : Operand} {s u : ByteArray} {z : Bool} (hx : ev l x = some (.string s)) (hy : ev l y = some (.string u)) (he : decide (s = u) = !z) : Runs P l ⟨D, .binOp .neq t x y t2, T, S, F, g⟩ w (.bool z) w :=
  run_bin hx hy rfl (by
    have : z = !decide (s = u) := by rw [he]; simp
    subst this; simp [binOp, Op.stringOp, toList_beq])
theorem R_adds {t t2 : TypeId} {x y : Operand} {s u r : ByteArray} (hx : ev l x = some (.string s)) (hy : ev l y = some (.string u)) (hle : s.size + u.size ≤ 9223372036854775807) (he : s ++ u = r) : Runs P l ⟨D, .binOp .add t x y t2, T, S, F, g⟩ w (.string r) w :=
  run_bin hx hy rfl (by
    subst he
    have : ¬ (((s.size + u.size : Nat) : Int) > IntKind.i64.max) := by
      have : IntKind.i64.max = 9223372036854775807 := by decide
      rw [this]; omega
    simp only [binOp, Op.stringOp, this, if_false]; simp)
theorem R_lens {x : Operand} {t ty : TypeId} {s : ByteArray} (hu : P.underlying t = some .string) (hx : ev l x = some (.string s)) : Runs P l ⟨D, .call ⟨.builtin .len, #[x], #[t]⟩, ty, S, F, g⟩ w (.int .i64 (s.size : Int)) w := fun ρ h => by
  unfold execOp; simp [resolve, invoke, builtin, h x _ hx, Builtin.len_, run_underlying hu, Result.andThen, goInt]
theorem R_lenl {x : Operand} {t ty e : TypeId} {ad : Option Addr} {n c : Nat} (hu : P.underlying t = some (.slice e)) (hx : ev l x = some (.slice ad n c)) : Runs P l ⟨D, .call ⟨.builtin .len, #[x], #[t]⟩, ty, S, F, g⟩ w (.int .i64 (n : Int)) w := fun ρ h => by
  unfold execOp; simp [resolve, invoke, builtin, h x _ hx, Builtin.len_, run_underlying hu, Result.andThen, goInt]
theorem R_indexs {t : TypeId} {x y : Operand} {k : IntKind} {s : ByteArray} {i : Int} {c : Int} (hu : P.underlying t = some .string) (hx : ev l x = some (.string s)) (hy : ev l y = some (.int k i)) (h0 : 0 ≤ i)
    {b : UInt8} (hb : s[i.toNat]? = some b) (he : ((b.toNat : Nat) : Int) = c) : Runs P l ⟨D, .index t x y, T, S, F, g⟩ w (.int .u8 c) w := fun ρ h => by
  subst he
  unfold execOp; simp [h x _ hx, h y _ hy, Instr.index, asIntOf, run_underlying hu, Result.andThen, h0, hb]
theorem R_slices {t : TypeId} {x : Operand} {lo hi : Option Operand} {s r : ByteArray} {i j : Nat} (hu : P.underlying t = some .string) (hx : ev l x = some (.string s))
    (hlo : (match lo with | none => i = 0 | some y => ∃ k, ev l y = some (.int k (i : Int)))) (hhi : (match hi with | none => j = s.size | some y => ∃ k, ev l y = some (.int k (j : Int)))) (hij : i ≤ j) (hj : j ≤ s.size) (he : s.extract i j = r) :
    Runs P l ⟨D, .slice t x lo hi none, T, S, F, g⟩ w (.string r) w := fun ρ h => by
  subst he
  have e : s.data.extract 0 = s.data.extract 0 := rfl
  cases lo with
  | none =>
    cases hi with
    | none =>
      simp only at hlo hhi
      subst hlo; subst hhi
      unfold execOp; simp [h x _ hx, Instr.sliceAt, Instr.slice, Instr.sliceBounds, run_underlying hu, Result.andThen]
    | some y =>
      obtain ⟨k, hk⟩ := hhi
      simp only at hlo
      subst hlo
      unfold execOp; simp [h x _ hx, h y _ hk, Instr.sliceAt, Instr.slice, Instr.sliceBounds, Instr.sliceBound, asIntOf, run_underlying hu, Result.andThen, hj]
  | some z =>
    obtain ⟨k, hk⟩ := hlo
    cases hi with
    | none =>
      simp only at hhi
      subst hhi
      unfold execOp; simp [h x _ hx, h z _ hk, Instr.sliceAt, Instr.slice, Instr.sliceBounds, Instr.sliceBound, asIntOf, run_underlying hu, Result.andThen, hij]
    | some y =>
      obtain ⟨k', hk'⟩ := hhi
      unfold execOp; simp [h x _ hx, h y _ hk', h z _ hk, Instr.sliceAt, Instr.slice, Instr.sliceBounds, Instr.sliceBound, asIntOf, run_underlying hu, Result.andThen, hj, hij]

/-- A text's byte at a place. -/
def byt (s : ByteArray) (i : Nat) : Int := if h : i < s.size then ((s[i]'h).toNat : Int) else 0
theorem byt_range (s : ByteArray) (i : Nat) : 0 ≤ byt s i ∧ byt s i ≤ 255 := by
  unfold byt
  split
  · rename_i h
    have := (s[i]'h).toNat_lt
    omega
  · omega
theorem R_indexb {t : TypeId} {x y : Operand} {k : IntKind} {s : ByteArray} {i : Nat} {c : Int} (hu : P.underlying t = some .string) (hx : ev l x = some (.string s)) (hy : ev l y = some (.int k (i : Int)))
    (hi : i < s.size) (he : byt s i = c) : Runs P l ⟨D, .index t x y, T, S, F, g⟩ w (.int .u8 c) w :=
  R_indexs (b := s[i]'hi) hu hx hy (by omega) (by simp [hi]) (by rw [← he]; unfold byt; rw [dif_pos hi])
theorem ret_int {k : IntKind} {a b : Int} (h : a = b) : Ending.returned (.int k a) = .returned (.int k b) := by rw [h]
theorem ret_str {a b : ByteArray} (h : a = b) : Ending.returned (.string a) = .returned (.string b) := by rw [h]
theorem ret_bool {a b : Bool} (h : a = b) : Ending.returned (.bool a) = .returned (.bool b) := by rw [h]
theorem wrap_i64 {x : Int} (h : -9223372036854775808 ≤ x ∧ x ≤ 9223372036854775807) : IntKind.i64.wrap x = x := by rw [IntKind.wrap_i64]; omega
theorem wrap_u64 {x : Int} (h : 0 ≤ x ∧ x ≤ 18446744073709551615) : IntKind.u64.wrap x = x := by simp [IntKind.wrap, IntKind.bits, IntKind.signed]; omega
theorem wrap_u32 (x : Int) : IntKind.u32.wrap x = x % 4294967296 := by simp [IntKind.wrap, IntKind.bits, IntKind.signed]
theorem wrap_u8 (x : Int) : IntKind.u8.wrap x = x % 256 := by simp [IntKind.wrap, IntKind.bits, IntKind.signed]
theorem tmod_pos {a b : Int} (h : 0 ≤ a) : a.tmod b = a % b := Int.tmod_eq_emod_of_nonneg h
theorem tdiv_pos {a b : Int} (h : 0 ≤ a) : a.tdiv b = a / b := Int.tdiv_eq_ediv_of_nonneg h

/-! Numbers turned -/
theorem R_conv {src dst : TypeId} {x : Operand} {k k' : IntKind} {a c : Int} {ds : TypeDesc} (hs : P.underlying src = some ds) (hd : P.underlying dst = some (.int k)) (hx : ev l x = some (.int k' a)) (he : k.wrap a = c) :
    Runs P l ⟨D, .convert src dst x, T, S, F, g⟩ w (.int k c) w := fun ρ h => by
  subst he
  show (do pure (Next.value (← convert src dst (ρ x))) : Sem Next).run P w = _
  rw [h x _ hx]
  refine run_value ?_
  simp [convert, run_underlying hs, run_underlying hd, Result.andThen, Conv.intToInt]
theorem R_convss {src dst : TypeId} {x : Operand} {s : ByteArray} (hs : P.underlying src = some .string) (hd : P.underlying dst = some .string) (hx : ev l x = some (.string s)) :
    Runs P l ⟨D, .convert src dst x, T, S, F, g⟩ w (.string s) w := fun ρ h => by
  show (do pure (Next.value (← convert src dst (ρ x))) : Sem Next).run P w = _
  rw [h x _ hx]
  refine run_value ?_
  simp [convert, run_underlying hs, run_underlying hd, Result.andThen]

/-! Aggregates -/
theorem R_extract {x : Operand} {i : Nat} {vs : Array Value} {v : Value} (hx : ev l x = some (.tuple vs)) (hv : vs[i]? = some v) : Runs P l ⟨D, .extract x i, T, S, F, g⟩ w v w := fun ρ h => by
  show (do pure (Next.value (← Instr.extract (ρ x) i)) : Sem Next).run P w = _
  rw [h x _ hx]
  refine run_value ?_
  simp [Instr.extract, hv]
theorem R_nilok {x : Operand} {a : Addr} (hx : ev l x = some (.pointer (some a))) : Runs P l ⟨D, .nilCheck x, T, S, F, g⟩ w (.pointer (some a)) w := fun ρ h => by
  have e := h x _ hx
  unfold execOp
  simp [e]
end
end Go.Proofs.YtpggmnomcahijaaDoor.Kw
