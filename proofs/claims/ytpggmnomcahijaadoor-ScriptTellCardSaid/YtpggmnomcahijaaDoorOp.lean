/- What is laid, and a world that has it. -/
import Derived.Test.YtpggmnomcahijaaDoorCards
import Derived.Test.YtpggmnomcahijaaDoorTie
import Derived.WalkKit
import Derived.ProofKit
import Derived.OpenShut
import Derived.Carry
import Derived.Deep.DeepHandedRow
import Derived.Deep.DeepLaidRun
import Derived.Lib.LaidTab
import Derived.Stop.LaidErr
import Derived.ShutString
import Derived.ShapedOpen
import Derived.Test.YtpggmnomcahijaaDoorSl
namespace Go.Proofs.YtpggmnomcahijaaDoor.Fn
open Go Go.Proofs Go.RowKit
set_option linter.unusedVariables false
set_option linter.unusedSimpArgs false
open Go.ChangeShapes Go.WideShapes Go.ChangeAt
theorem laidOut' : laidOutB Tryd.prog = true := by kernel_rfl
theorem gTable : Tryd.prog.globalNamed "speculum/script.table" = some 0 := by kernel_rfl
theorem gTableT : (Tryd.prog.globals[0]?).map (·.type) = some 60 := by kernel_rfl
theorem gPowT : (Tryd.prog.globals[4]?).map (·.type) = some 112 := by kernel_rfl
theorem gES : Tryd.prog.globalNamed "strconv.ErrSyntax" = some 2 := by kernel_rfl
theorem gEST : (Tryd.prog.globals[2]?).map (·.type) = some 46 := by kernel_rfl
theorem gER : Tryd.prog.globalNamed "strconv.ErrRange" = some 3 := by kernel_rfl
theorem gERT : (Tryd.prog.globals[3]?).map (·.type) = some 46 := by kernel_rfl
theorem cells59 : Tryd.prog.cellsOf 59 = 3 := by kernel_rfl
theorem cells60 : Tryd.prog.cellsOf 60 = 42 := by kernel_rfl
theorem cells95 : Tryd.prog.cellsOf 95 = 1 := by kernel_rfl
theorem cells112 : Tryd.prog.cellsOf 112 = 20 := by kernel_rfl
theorem star : "*" ++ "errors.errorString" = "*errors.errorString" := by decide
theorem row116 (u : TypeId) (h : Tryd.prog.typeName? 3 u = some "*errors.errorString") : u = 116 :=
  typeName_ptr_named (nm := "errors.errorString") (by rw [star]; kernel_rfl) (by kernel_rfl) (by decide) u (by rw [star]; exact h)
theorem len3 {α : Type} : ∀ {l : List α}, l.length = 3 → ∃ a b c, l = [a, b, c]
  | [a, b, c], _ => ⟨a, b, c, rfl⟩
theorem len1 {α : Type} : ∀ {l : List α}, l.length = 1 → ∃ a, l = [a]
  | [a], _ => ⟨a, rfl⟩
theorem trod59 {H : Type} {enc : TypeId × Value → H} {w : World} {base : Nat} {sp : Nat → Bool} {held : Bool} {fuel : Nat} {cs : List Value} {s : List UInt8} {n : Int} {b : Bool} {p : List MemPlace}
    (h : DataW.trod enc Tryd.prog w base sp held fuel 59 cs = some (.agg [.lit (.string s), .lit (.int .i64 n), .lit (.bool b)], p)) : cs = [.string ⟨s.toArray⟩, .int .i64 n, .bool b] := by
  obtain ⟨xs, m, rfl, hx, hl, hxl, hi⟩ := DataW.trod_struct Tryd.underlying59 h
  rw [cells59] at hl
  have hxl3 : xs.length = 3 := hxl
  obtain ⟨c0, c1, c2, rfl⟩ := len3 hl
  obtain ⟨x0, x1, x2, rfl⟩ := len3 hxl3
  have h0 := hi 0 _ rfl
  have h1 := hi 1 _ rfl
  have h2 := hi 2 _ rfl
  have e0 : ((([c0, c1, c2] : List Value).drop 0).take (Tryd.prog.cellsOf 9)) = [c0] := by rw [show Tryd.prog.cellsOf 9 = 1 by kernel_rfl]; rfl
  have e1 : ((([c0, c1, c2] : List Value).drop 1).take (Tryd.prog.cellsOf 3)) = [c1] := by rw [show Tryd.prog.cellsOf 3 = 1 by kernel_rfl]; rfl
  have e2 : ((([c0, c1, c2] : List Value).drop 2).take (Tryd.prog.cellsOf 4)) = [c2] := by rw [show Tryd.prog.cellsOf 4 = 1 by kernel_rfl]; rfl
  obtain ⟨s', ec0, ex0, _⟩ := DataW.trod_string Tryd.underlying9 ((congrArg _ e0.symm).trans h0)
  obtain ⟨n', ec1, ex1, _⟩ := DataW.trod_int Tryd.underlying3 ((congrArg _ e1.symm).trans h1)
  obtain ⟨b', ec2, ex2⟩ := DataW.trod_bool Tryd.underlying4 ((congrArg _ e2.symm).trans h2)
  subst ex0 ex1 ex2
  simp only [Prod.mk.injEq, DataW.agg.injEq, List.map_cons, List.map_nil, List.cons.injEq, DataW.lit.injEq, Lit.string.injEq, Lit.int.injEq, Lit.bool.injEq, true_and, and_true] at hx
  obtain ⟨⟨rfl, rfl, rfl⟩, _⟩ := hx
  simp only [List.cons.injEq, and_true] at ec0 ec1 ec2
  rw [ec0, ec1, ec2]
def tabD : List (DataW Unit) := tabL.map fun p => .agg [.lit (.string p.1), .lit (.int .i64 (p.2.1 : Int)), .lit (.bool p.2.2)]
theorem tabC_row : ∀ k, k < 14 → (tabC.drop (k * 3)).take 3 = [.string ⟨(wordL k).toArray⟩, .int .i64 (numsN k : Int), .bool (txtB k)] := by
  intro k h
  have : k = 0 ∨ k = 1 ∨ k = 2 ∨ k = 3 ∨ k = 4 ∨ k = 5 ∨ k = 6 ∨ k = 7 ∨ k = 8 ∨ k = 9 ∨ k = 10 ∨ k = 11 ∨ k = 12 ∨ k = 13 := by omega
  rcases this with rfl | rfl | rfl | rfl | rfl | rfl | rfl | rfl | rfl | rfl | rfl | rfl | rfl | rfl <;> rfl
theorem tabD_at : ∀ k, k < 14 → tabD[k]? = some (.agg [.lit (.string (wordL k)), .lit (.int .i64 (numsN k : Int)), .lit (.bool (txtB k))]) := by
  intro k h
  have : k = 0 ∨ k = 1 ∨ k = 2 ∨ k = 3 ∨ k = 4 ∨ k = 5 ∨ k = 6 ∨ k = 7 ∨ k = 8 ∨ k = 9 ∨ k = 10 ∨ k = 11 ∨ k = 12 ∨ k = 13 := by omega
  rcases this with rfl | rfl | rfl | rfl | rfl | rfl | rfl | rfl | rfl | rfl | rfl | rfl | rfl | rfl <;> rfl
set_option maxRecDepth 100000 in
theorem table_of {W : World} (h : laidMet Tryd.prog [("speculum/script.table", .agg tabD)] W) : W.var? Tryd.prog "speculum/script.table" = some tabC.toArray := by
  obtain ⟨ps, ⟨g', t', cs, fuel, p, q, hg', ht', hvar, hd, _, _⟩, _⟩ := h
  obtain rfl := Option.some.inj (gTable.symm.trans hg')
  obtain rfl := Option.some.inj (gTableT.symm.trans ht')
  rw [hvar]
  obtain ⟨l⟩ := cs
  obtain ⟨xs, m, rfl, hx, hl, hxl, hi⟩ := DataW.trod_array Tryd.underlying60 hd
  rw [cells60] at hl
  rw [cells59] at hi
  have hxd : tabD = xs.map (·.1) := by
    simp only [Prod.mk.injEq, DataW.agg.injEq] at hx
    exact hx.1
  have hrow : ∀ k, k < 14 → ((l.drop (k * 3)).take 3) = (tabC.drop (k * 3)).take 3 := by
    intro k hk
    have h1 := hi k hk
    rw [List.getElem?_eq_getElem (by omega)] at h1
    have h2 := tabD_at k hk
    rw [hxd, List.getElem?_map, List.getElem?_eq_getElem (by omega)] at h2
    have h3 := Option.some.inj h2
    obtain ⟨y, hy⟩ : ∃ y, xs[k]'(by omega) = y := ⟨_, rfl⟩
    rw [hy] at h1 h3
    obtain ⟨y1, y2⟩ := y
    dsimp only at h3
    subst h3
    rw [trod59 h1, tabC_row k hk]
  suffices hlt : l = tabC from congrArg (fun l => some (Array.mk l)) hlt
  apply List.ext_getElem?
  intro j
  rcases Nat.lt_or_ge j 42 with hj | hj
  · have h1 := congrArg (·[j % 3]?) (hrow (j / 3) (by omega))
    simp only [List.getElem?_take, List.getElem?_drop, if_pos (show j % 3 < 3 by omega)] at h1
    rwa [show j / 3 * 3 + j % 3 = j by omega] at h1
  · rw [List.getElem?_eq_none (by simpa [hl] using hj), List.getElem?_eq_none (by show tabC.length ≤ j; simpa [tabC, tabL] using hj)]
abbrev laidL : List (String × DataW Unit) := [("math/bits.deBruijn32tab", Rows.laid_math_bits_deBruijn32tab), ("math/bits.deBruijn64tab", Rows.laid_math_bits_deBruijn64tab), ("internal/strconv.uint64pow10", Rows.laid_internal_strconv_uint64pow10), ("unicode/utf8.acceptRanges", Rows.laid_unicode_utf8_acceptRanges), ("strconv.ErrRange", Rows.laid_strconv_ErrRange), ("strconv.ErrSyntax", Rows.laid_strconv_ErrSyntax), ("speculum/script.table", Rows.laid_speculum_script_table), ("unicode/utf8.first", Rows.laid_unicode_utf8_first)]
theorem cell_int {P : Program} {w : World} {r : Reach} {base : Nat} {t : TypeId} {v : Value} {k : IntKind} (ht : P.underlying t = some (.int k)) (h : Cell.ok P w r base t v) : ∃ n : Int, v = .int k n := by
  unfold Cell.ok at h
  rw [ht] at h
  cases v <;> simp at h
  obtain ⟨rfl, h⟩ := h
  exact ⟨_, rfl⟩
theorem cell_of1 {W : World} {v : Value} {T : TypeId} {f : Nat × Nat} (hcs : W.heap[1]? = some (.cells ⟨[v]⟩ T f)) : W.cell? ⟨1, 0, none⟩ = some v := by simp [World.cell?, hcs]
set_option maxRecDepth 1000000 in
theorem int_cell {W : World} {v : Value} (hv : Cell.ok Tryd.prog W .any 0 3 v) (hcs : W.heap[1]? = some (.cells ⟨[v]⟩ 3)) : ∃ m, W.cell? ⟨1, 0, none⟩ = some (.int .i64 m) := by
  obtain ⟨m, rfl⟩ := cell_int Tryd.underlying3 hv
  exact ⟨m, cell_of1 hcs⟩
set_option maxRecDepth 100000 in
theorem shape1 {W : World} (h : W.ShapedOpen Tryd.prog) : ∃ m, W.cell? ⟨1, 0, none⟩ = some (.int .i64 m) := by
  obtain ⟨cs, hcs, hsz, hrow⟩ := h.1 1 #[.int .i64 0] 3 (of_decide_eq_true (by kernel_rfl)) (by kernel_rfl)
  obtain ⟨ts, hts, _, hi⟩ := hrow (by kernel_rfl)
  obtain rfl : ts = [3] := Option.some.inj (hts.symm.trans (by kernel_rfl))
  obtain ⟨l⟩ := cs
  have hl1 : l.length = 1 := hsz
  obtain ⟨v, rfl⟩ := len1 hl1
  obtain ⟨u, hu, hv⟩ := hi 0 v rfl
  obtain rfl : 3 = u := Option.some.inj hu
  exact int_cell hv hcs
set_option maxRecDepth 100000 in
theorem shape8 {W : World} (h : W.ShapedOpen Tryd.prog) : 9 ≤ W.heap.size := by
  obtain ⟨cs, hcs, _, _⟩ := h.1 8 (Array.replicate 64 (.int .u8 0)) 125 (of_decide_eq_true (by kernel_rfl)) (by kernel_rfl)
  exact (Array.getElem?_eq_some_iff.1 hcs).1
set_option maxRecDepth 100000 in
theorem glob_of {W : World} (hL : laidMet Tryd.prog laidL W) (hsh : W.ShapedOpen Tryd.prog) : Glob W := by
  have h1 := table_of (laidMet.filter (fun x => x.1 == "speculum/script.table") hL)
  have h2 : laidMet Tryd.prog [("strconv.ErrSyntax", Rows.laid_strconv_ErrSyntax)] W := laidMet.filter (fun x => x.1 == "strconv.ErrSyntax") hL
  have h3 : laidMet Tryd.prog [("strconv.ErrRange", Rows.laid_strconv_ErrRange)] W := laidMet.filter (fun x => x.1 == "strconv.ErrRange") hL
  have h4 : laidMet Tryd.prog [("internal/strconv.uint64pow10", Rows.laid_internal_strconv_uint64pow10)] W := laidMet.filter (fun x => x.1 == "internal/strconv.uint64pow10") hL
  refine ⟨fun j v hv => ?_, shape1 hsh, ?_, ?_, ?_, shape8 hsh⟩
  · have := World.var?_cell gTable h1 j
    rw [List.getElem?_toArray] at this
    rw [this]; exact hv
  · obtain ⟨a0, s0, hv0, _⟩ := laid_sentinel h2 gES gEST Tryd.underlying46 row116 Tryd.underlying116 Tryd.underlying118 rfl rfl Tryd.underlying9 (by kernel_rfl) (by kernel_rfl)
    exact ⟨_, by simpa using World.var?_cell gES hv0 0, .inr ⟨_, _, rfl⟩⟩
  · obtain ⟨a0, s0, hv0, _⟩ := laid_sentinel h3 gER gERT Tryd.underlying46 row116 Tryd.underlying116 Tryd.underlying118 rfl rfl Tryd.underlying9 (by kernel_rfl) (by kernel_rfl)
    exact ⟨_, by simpa using World.var?_cell gER hv0 0, .inr ⟨_, _, rfl⟩⟩
  · exact Lib.tabIs_of_head (rest := []) gPow gPowT Tryd.underlying112 Tryd.underlying95 cells95 cells112 h4
/-! ### A world in which all this is laid -/
def layCells (cs : Array Value) : Obj → Obj
  | .cells _ t frozen => .cells cs t frozen
  | o => o
def litsV : DataW Unit → List Value
  | .agg ds => ds.map fun | .lit (.int k n) => .int k n | _ => .nilIface
  | _ => []
noncomputable abbrev N0 : Nat := (World.settled Tryd.prog default).heap.size
noncomputable def laidWorld (os : Os) : World :=
  let w0 := World.holding Tryd.prog os ⟨#[.cells #[.string ⟨#[118, 97, 108, 117, 101, 32, 111, 117, 116, 32, 111, 102, 32, 114, 97, 110, 103, 101]⟩] 118, .cells #[.string ⟨#[105, 110, 118, 97, 108, 105, 100, 32, 115, 121, 110, 116, 97, 120]⟩] 118], #[], []⟩
  let h0 := w0.heap.modify 0 (layCells tabC.toArray)
  let h1 := h0.modify 2 (layCells #[.iface 116 (.pointer (some ⟨N0 + 1, 0, none⟩))])
  let h2 := h1.modify 3 (layCells #[.iface 116 (.pointer (some ⟨N0, 0, none⟩))])
  let h3 := h2.modify 4 (layCells (litsV Rows.laid_internal_strconv_uint64pow10).toArray)
  let h4 := h3.modify 5 (layCells (litsV Rows.laid_unicode_utf8_first).toArray)
  let h5 := h4.modify 6 (layCells ((List.range 16).flatMap fun i => [Value.int .u8 (if i = 0 then 128 else if i = 1 then 160 else if i = 2 then 128 else if i = 3 then 144 else if i = 4 then 128 else 0), Value.int .u8 (if i = 0 then 191 else if i = 1 then 191 else if i = 2 then 159 else if i = 3 then 191 else if i = 4 then 143 else 0)]).toArray)
  let h6 := h5.modify 7 (layCells (litsV Rows.laid_math_bits_deBruijn32tab).toArray)
  let h7 := h6.modify 8 (layCells (litsV Rows.laid_math_bits_deBruijn64tab).toArray)
  { w0 with heap := h7 }
set_option maxRecDepth 1000000 in
theorem laid_met (os : Os) (args : Array Value) : laidMet Tryd.prog laidL ((laidWorld os).forCall (fun _ _ => 0) ⟨#[], args, []⟩).memory :=
  laidMet_of_run3 8 (by kernel_rfl) (by kernel_rfl) (by kernel_rfl)

end Go.Proofs.YtpggmnomcahijaaDoor.Fn
