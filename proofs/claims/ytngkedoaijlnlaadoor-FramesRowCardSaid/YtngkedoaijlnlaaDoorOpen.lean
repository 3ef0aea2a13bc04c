/- Opening an array of bytes that came in; the two tables out of the row's list. -/
import Derived.Test.YtngkedoaijlnlaaDoorCards
import Derived.Test.YtngkedoaijlnlaaDoorTie
import Derived.WalkKit
import Derived.ProofKit
import Derived.OpenShut
import Derived.Carry
import Derived.Deep.DeepHandedRow
import Derived.Lib.LaidTab
import Derived.Test.YtngkedoaijlnlaaDoorBackLaws
namespace Go.Proofs.YtngkedoaijlnlaaDoor.Fn
open Go Go.Proofs Go.RowKit Go.ChangeShapes Go.WideShapes Go.ChangeAt Go.Proofs.YtngkedoaijlnlaaDoorW.PrintWords Go.Proofs.YtngkedoaijlnlaaDoorW.PrintLast Go.Proofs.YtngkedoaijlnlaaDoorW.PrintMore
set_option linter.unusedVariables false
set_option linter.unusedSimpArgs false
theorem okWide_array {P : Program} {w : World} {r : Reach} {base : Nat} {t e : TypeId} {n : Nat} {v : Value} (ht : P.underlying t = some (.array n e)) (h : Value.okWide P w r base t v) : ∃ cs, v = .agg cs ∧ cs.size = P.cellsOf t := by
  simp only [Value.okWide, ht] at h
  obtain ⟨cs, h1, h2, _⟩ := h
  exact ⟨cs, h1, h2⟩
theorem under5' : Tryd.prog.underlying 5 = some (.int .u8) := Tryd.underlying5
theorem cellsOf5 : Tryd.prog.cellsOf 5 = 1 := by kernel_rfl
theorem cellsOf24 : Tryd.prog.cellsOf 24 = 32 := by kernel_rfl
theorem cellsOf31 : Tryd.prog.cellsOf 31 = 2 := by kernel_rfl
theorem cellsOf51 : Tryd.prog.cellsOf 51 = 8 := by kernel_rfl
theorem cellsOf56 : Tryd.prog.cellsOf 56 = 64 := by kernel_rfl
theorem cellsOf50 : Tryd.prog.cellsOf 50 = 1 := by kernel_rfl
theorem laidOut' : laidOutB Tryd.prog = true := by kernel_rfl
/-- An array of bytes that came in. -/
theorem open_u8s {H : Type} {enc : TypeId × Value → H} {W : World} {v : Value} {d : DataW H} {p : List MemPlace} {t n : Nat} (hu : Tryd.prog.underlying t = some (.array n 5)) (hct : Tryd.prog.cellsOf t = n)
    (hv : Value.okWide Tryd.prog W .any 0 t v) (h : DataW.Trod enc Tryd.prog W 0 (fun _ => true) true t v d p) :
    ∃ l : List Int, v = .agg (cells8 l) ∧ l.length = n ∧ Bytes l ∧ p = [] := by
  obtain ⟨cs, rfl, hsz⟩ := okWide_array hu hv
  rw [hct] at hsz
  obtain ⟨fuel, hf⟩ := h
  obtain ⟨xs, m, rfl, hx, hl, hxl, hi⟩ := DataW.trod_array hu hf
  rw [cellsOf5] at hi
  have hcell : ∀ i, i < n → ∃ a : Int, cs[i]? = some (.int .u8 a) ∧ (0 ≤ a ∧ a < 256) ∧ ∃ y, xs[i]? = some (y, []) := by
    intro i hlt
    have h0 := hi i hlt
    have hlt' : i < cs.toList.length := by simpa [hsz] using hlt
    have e1 : ((Value.agg cs).cells.toList.drop (i * 1)).take 1 = [cs.toList[i]] := by
      show (cs.toList.drop (i * 1)).take 1 = _
      rw [Nat.mul_one, List.drop_eq_getElem_cons hlt']; rfl
    rw [e1] at h0
    have hlx : i < xs.length := by omega
    rw [List.getElem?_eq_getElem hlx] at h0
    obtain ⟨a, e0, e2, wa⟩ := DataW.trod_int under5' h0
    refine ⟨a, ?_, ?_, ?_⟩
    · have e0' : cs.toList[i] = .int .u8 a := by simpa using e0
      rw [← Array.getElem?_toList, List.getElem?_eq_getElem hlt', e0']
    · simp [Lit.wf, IntKind.min, IntKind.max, IntKind.signed, IntKind.bits] at wa; omega
    · exact ⟨_, by rw [List.getElem?_eq_getElem hlx, e2]⟩
  have hxe : xs.flatMap (·.2) = [] := by
    rw [List.flatMap_eq_nil_iff]
    intro y hy
    obtain ⟨i, hlt, rfl⟩ := List.getElem_of_mem hy
    obtain ⟨_, _, _, y, hy⟩ := hcell i (by omega)
    rw [List.getElem?_eq_getElem hlt] at hy
    rw [Option.some.inj hy]
  refine ⟨cs.toList.map fun v => match v with | .int _ a => a | _ => 0, ?_, by simp [hsz], ?_, ?_⟩
  · congr 1
    apply Array.toList_inj.1
    unfold cells8
    apply List.ext_getElem?
    intro i
    simp only [List.map_map, List.getElem?_map]
    rcases Nat.lt_or_ge i n with hlt | hge
    · obtain ⟨a, ha, _⟩ := hcell i hlt
      rw [Array.getElem?_toList, ha]; rfl
    · rw [List.getElem?_eq_none (by simp [hsz]; exact hge)]; rfl
  · intro x hx'
    obtain ⟨v, hv', rfl⟩ := List.mem_map.1 hx'
    obtain ⟨i, hlt, rfl⟩ := List.getElem_of_mem hv'
    obtain ⟨a, ha, hr, _⟩ := hcell i (by simpa [hsz] using hlt)
    rw [← Array.getElem?_toList, List.getElem?_eq_getElem hlt] at ha
    rw [Option.some.inj ha]; exact hr
  · simp only [Prod.mk.injEq] at hx
    rw [hx.2, hxe]
theorem gFirst : Tryd.prog.globalNamed "speculum/sha.first" = some 0 := by kernel_rfl
theorem gRounds : Tryd.prog.globalNamed "speculum/sha.rounds" = some 1 := by kernel_rfl
theorem gFirstT : (Tryd.prog.globals[0]?).map (·.type) = some 51 := by kernel_rfl
theorem gRoundsT : (Tryd.prog.globals[1]?).map (·.type) = some 56 := by kernel_rfl
/-- What the row's list gives: the two tables. -/
theorem tables {W : World} (h : laidMet Tryd.prog [("speculum/sha.first", Rows.laid_speculum_sha_first), ("speculum/sha.rounds", Rows.laid_speculum_sha_rounds)] W) : Tab W 0 H8 ∧ Tab W 1 K64 := by
  have h1 : Lib.TabIs Tryd.prog W "speculum/sha.first" .u32 H8 := Lib.tabIs_of_head gFirst gFirstT Tryd.underlying51 Tryd.underlying50 cellsOf50 cellsOf51 h
  have h2 : Lib.TabIs Tryd.prog W "speculum/sha.rounds" .u32 K64 := Lib.tabIs_of_head (rest := []) gRounds gRoundsT Tryd.underlying56 Tryd.underlying50 cellsOf50 cellsOf56 (laidMet.filter (fun x => x.1 != "speculum/sha.first") h)
  exact ⟨fun i hi => h1.cell gFirst i hi, fun i hi => h2.cell gRounds i hi⟩
end Go.Proofs.YtngkedoaijlnlaaDoor.Fn
