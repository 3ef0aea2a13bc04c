/- The library's functions as contracts. -/
import Derived.Test.YtpggmnomcahijaaDoorSp
import Derived.Lib.BufferWrite
import Derived.Lib.AppendStr
import Derived.Lib.Hide
import Derived.Lib.AtoiErrMem
import Derived.Lib.LaidTab
import Derived.WalkKit
import Derived.Sort.Grow
namespace Go.Proofs.YtpggmnomcahijaaDoor.Fn
open Go Go.Proofs Go.RowKit
set_option linter.unusedVariables false
set_option linter.unusedSimpArgs false
/-! ### What is laid -/
def tabC : List Value := tabL.flatMap fun p => [.string ⟨p.1.toArray⟩, .int .i64 (p.2.1 : Int), .bool p.2.2]
structure Glob (w : World) : Prop where
  tab : ∀ j v, tabC[j]? = some v → w.cell? ⟨0, j, none⟩ = some v
  maxl : ∃ m, w.cell? ⟨1, 0, none⟩ = some (.int .i64 m)
  errS : ∃ ev, w.cell? ⟨2, 0, none⟩ = some ev ∧ (ev = .nilIface ∨ ∃ te pe, ev = .iface te pe)
  errR : ∃ ev, w.cell? ⟨3, 0, none⟩ = some ev ∧ (ev = .nilIface ∨ ∃ te pe, ev = .iface te pe)
  pow : Lib.TabIs Tryd.prog w "internal/strconv.uint64pow10" .u64 Lib.pow10Tab
  size : 9 ≤ w.heap.size
theorem gPow : Tryd.prog.globalNamed "internal/strconv.uint64pow10" = some 4 := by kernel_rfl
theorem Glob.below {w w' : World} (h : Glob w) (b : Below w.heap.size w w') : Glob w' := by
  have hs := h.size
  have hb : ∀ k, k < 9 → w'.heap[k]? = w.heap[k]? := fun k hk => b.block k (by omega)
  have hc : ∀ k j, k < 9 → w'.cell? ⟨k, j, none⟩ = w.cell? ⟨k, j, none⟩ := fun k j hk => World.cell?_of_block (w := w) (hb k hk)
  refine ⟨fun j v hv => by rw [hc 0 j (by omega)]; exact h.tab j v hv, ?_, ?_, ?_, ?_, Nat.le_trans hs b.size⟩
  · obtain ⟨m, hm⟩ := h.maxl; exact ⟨m, by rw [hc 1 0 (by omega)]; exact hm⟩
  · obtain ⟨m, hm⟩ := h.errS; exact ⟨m, by rw [hc 2 0 (by omega)]; exact hm⟩
  · obtain ⟨m, hm⟩ := h.errR; exact ⟨m, by rw [hc 3 0 (by omega)]; exact hm⟩
  · have hp := h.pow
    unfold Lib.TabIs at hp ⊢
    unfold World.var? at hp ⊢
    rw [gPow] at hp ⊢
    simp only [Option.bind_some] at hp ⊢
    rw [hb 4 (by omega)]; exact hp
theorem below_drewN (w : World) (n : Nat) : Below w.heap.size w (w.drewN n) := ⟨rfl, rfl, rfl, Nat.le_refl _, fun _ _ => rfl⟩
theorem below_grow (w : World) (k : Nat) (os : Array Obj) : Below w.heap.size w (Sort.grow (w.drewN k) os) :=
  ⟨rfl, rfl, rfl, by show w.heap.size ≤ (w.heap ++ os).size; simp, fun j hj => by
    show (w.heap ++ os)[j]? = _
    rw [Array.getElem?_append_left hj]⟩
/-! ### The library's functions -/
theorem itoa_c (n : Int) (h : i64 n) (w : World) (G : Glob w) : Calls Tryd.prog 22 #[.int .i64 n] w fun e w' => e = .returned (.string ⟨(itoaL n).toArray⟩) ∧ Below w.heap.size w w' :=
  (Tryd.strconv_Itoa n h.1 h.2 w G.pow).mono fun e w' ⟨he, k, os, hw⟩ => ⟨by rw [he, itoaL_eq h], by rw [hw]; exact below_grow w k os⟩
theorem atoi_c (s : ByteArray) (hs : s.size ≤ 1000000000) (w : World) (G : Glob w) : Calls Tryd.prog 27 #[.string s] w (Kw.Back fun v w' => (∃ ev, v = .tuple #[.int .i64 (atoiV s.data.toList), ev]) ∧ Below w.heap.size w w') := by
  rcases h : Lib.atoiAll s.data.toList with v | _ | _
  ·
    refine (Tryd.strconv_Atoi_ok s (by omega) v h w).mono fun e w' ⟨he, hw⟩ => ⟨_, he, ⟨_, by unfold atoiV; rw [h]⟩, ?_⟩
    rcases hw with rfl | ⟨t, rfl⟩
    · exact Below.refl _ _
    · exact Lib.bytesWorld_below _ _ _
  ·
    obtain ⟨ev, h1, h2⟩ := G.errS
    exact (Tryd.strconv_Atoi_syntax s (by omega) h ev w h1 h2).mono fun e w' ⟨N, he, _, _, hb⟩ => ⟨_, he, ⟨_, by unfold atoiV; rw [h]⟩, hb⟩
  ·
    obtain ⟨ev, h1, h2⟩ := G.errR
    exact (Tryd.strconv_Atoi_range s (by omega) h ev w h1 h2).mono fun e w' ⟨N, he, _, _, hb⟩ => ⟨_, he, ⟨_, by unfold atoiV; rw [h]⟩, hb⟩
theorem cut_c (s : ByteArray) (hs : s.size ≤ 1000000000) (w : World) (G : Glob w) : Calls Tryd.prog 17 #[.string s, .string ⟨#[10]⟩] w fun e w' => e = .returned (.tuple #[.string ⟨(cutL 10 s.data.toList).1.toArray⟩, .string ⟨(cutL 10 s.data.toList).2.1.toArray⟩, .bool (cutL 10 s.data.toList).2.2]) ∧ Below w.heap.size w w' := by
  obtain ⟨m, hm⟩ := G.maxl
  refine (Tryd.strings_Cut s ⟨#[10]⟩ m w (by omega) hm).mono fun e w' ⟨he, n, hw⟩ => ⟨?_, by rw [hw]; exact below_drewN w n⟩
  rw [he, show (⟨#[10]⟩ : ByteArray).data.toList = [10] from rfl, cut_cutL]
theorem split_c (s : ByteArray) (hs : s.size ≤ 1000000000) (w : World) (G : Glob w) : Calls Tryd.prog 26 #[.string s, .string ⟨#[32]⟩] w (Kw.Back fun v w' => (∃ (g : Nat) (ss : List ByteArray), v = .slice (some ⟨g, 0, none⟩) ss.length ss.length ∧ w.heap.size ≤ g ∧ Kw.At w' g (ss.map Value.string).toArray 9 ∧ ss.map (·.data.toList) = splitL 32 s.data.toList) ∧ Below w.heap.size w w') := by
  obtain ⟨m, hm⟩ := G.maxl
  refine (Tryd.strings_Split s ⟨#[32]⟩ m w (by omega) hm (Nat.le_refl 1)).mono fun e w' ⟨he, hw⟩ => ?_
  have hl := Lib.splitB_all ⟨#[32]⟩ (Nat.le_refl 1) 0 _ s rfl
  have hN : Kw.Newb w w.heap.size ((Lib.splitB ⟨#[32]⟩ 0 (Lib.countB s ⟨#[32]⟩) s).map Value.string).toArray 9 w' := ⟨hw, rfl⟩
  exact ⟨_, he, ⟨_, Lib.splitB ⟨#[32]⟩ 0 (Lib.countB s ⟨#[32]⟩) s, by rw [hl], Nat.le_refl _, hN.at_, splitB_splitL 32 _ s rfl⟩, hN.below (Below.refl _ _) (Nat.le_refl _)⟩
theorem index_c (b : Int) (w : World) : Calls Tryd.prog 44 #[.string ⟨#[48, 49, 50, 51, 52, 53, 54, 55, 56, 57, 97, 98, 99, 100, 101, 102]⟩, .int .u8 b] w fun e w' => e = .returned (.int .i64 (valI b.toNat.toUInt8)) ∧ w' = w :=
  Tryd.strings_IndexByte _ b w
theorem join_c (B n : Nat) (v : Value) (ss : List ByteArray) (w : World) (h : Kw.Own w B 9 1 v n (ss.map Value.string)) (hn : n = ss.length) (hl : ss.length ≤ 1000) (hj : (Lib.join (ss.map (·.data.toList)) [32]).length ≤ 1000000000) : Calls Tryd.prog 24 #[v, .string ⟨#[32]⟩] w fun e w' => e = .returned (.string ⟨(Lib.join (ss.map (·.data.toList)) [32]).toArray⟩) ∧ Below w.heap.size w w' := by
  subst hn
  rcases h.2 with ⟨rfl, hz⟩ | ⟨g, cap, cur, rfl, _, hA, h1, h2, h3, h4⟩
  · have : ss = [] := List.eq_nil_of_length_eq_zero hz
    subst this
    exact (Tryd.strings_Join_none none 0 _ w).mono fun e w' ⟨he, hw⟩ => ⟨he, by rw [hw]; exact Below.refl _ _⟩
  · refine Tryd.strings_Join g 0 cap ss ⟨#[32]⟩ w (fun j x hx => ?_) hA.lt (by omega) h1 (by show (Lib.join _ [32]).length ≤ _; omega)
    have hjl : j < ss.length := (List.getElem?_eq_some_iff.1 hx).1
    rw [hA.cell, Nat.zero_add, Kw.Own.cellAt h4 (by omega), List.getElem?_map, hx]; rfl
/-! ### The builder -/
theorem bld_info : (Tryd.prog.info? 44).map (·.size) = some 2 := by kernel_rfl
theorem bld_lies : liesAt Tryd.prog Tryd.prog.depth 44 (2 / Tryd.prog.cellsOf 44) 0 44 1 = true := by kernel_rfl
set_option maxHeartbeats 1000000 in
set_option maxRecDepth 100000 in
theorem check_used (b : Nat) (w : World) (h0 : w.cell? ⟨b, 0, none⟩ = some (.pointer (some ⟨b, 0, none⟩))) :
    Calls Tryd.prog 21 #[.pointer (some ⟨b, 0, none⟩)] w fun e w' => e = .returned (.tuple #[]) ∧ w' = w := by
  obtain ⟨j, hj, _⟩ := Option.map_eq_some_iff.1 bld_info
  go_enter Tryd.func21, Tryd.ntmps21
  go_wp2
  rw [Lib.run_neq_ptr_same w _ Tryd.underlying41 hj]
  go_wp2
  go_end0
  exact ⟨rfl, rfl⟩
set_option maxHeartbeats 1000000 in
set_option maxRecDepth 100000 in
theorem check_fresh (b : Nat) (w : World) (h0 : w.cell? ⟨b, 0, none⟩ = some (.pointer none)) (hsh : w.shape? b = some (44, 2)) (hfz : w.frozen? ⟨b, 0, none⟩ = false) :
    Calls Tryd.prog 21 #[.pointer (some ⟨b, 0, none⟩)] w fun e w' => e = .returned (.tuple #[]) ∧ w' = w.setCell ⟨b, 0, none⟩ (.pointer (some ⟨b, 0, none⟩)) := by
  obtain ⟨j, hj, hjs⟩ := Option.map_eq_some_iff.1 bld_info
  go_enter Tryd.func21, Tryd.ntmps21
  go_wp2
  rw [Lib.run_to_unsafe w ⟨b, 0, none⟩ Tryd.underlying41 Tryd.underlying77 hj (by rw [hjs]; decide) hsh (Nat.zero_lt_succ 1)]
  simp only [Result.andThen]
  rw [Oper.upon_value]
  go_wp2
  rw [run_callFunc_extern Tryd.func37 (by kernel_rfl) (by kernel_rfl) (by kernel_rfl) (e := Extern.AbiNoEscape.same) (by kernel_rfl)]
  rw [Lib.run_noEscape]
  simp only [Result.andThen]
  rw [Oper.upon_value]
  go_wp2
  rw [Lib.run_from_unsafe w ⟨b, 0, none⟩ Tryd.underlying77 Tryd.underlying41 hj hsh bld_lies]
  simp only [Result.andThen]
  rw [Oper.upon_value]
  go_wp2
  go_end0
  exact ⟨rfl, rfl⟩
theorem check_c (B b : Nat) (bs : List Value) (w : World) (h : Lib.IsBuilder 44 5 B b bs w) :
    Calls Tryd.prog 21 #[.pointer (some ⟨b, 0, none⟩)] w fun e w' => e = .returned (.tuple #[]) ∧ (Lib.BuilderAt 44 5 B b (.pointer (some ⟨b, 0, none⟩)) bs w' ∧ Below B w w') := by
  rcases h with h | h
  · refine (check_fresh b w h.cell0 h.shape h.frozen0).mono ?_
    rintro e w' ⟨rfl, rfl⟩
    exact ⟨rfl, h.used _, (Below.refl B w).setCell (p := ⟨b, 0, none⟩) h.1 _⟩
  · refine (check_used b w h.cell0).mono ?_
    rintro e w' ⟨rfl, rfl⟩
    exact ⟨rfl, h, Below.refl B _⟩
set_option maxHeartbeats 2000000 in
set_option maxRecDepth 100000 in
theorem write_c (B b : Nat) (bs : List Value) (s : ByteArray) (w : World) (h : Lib.IsBuilder 44 5 B b bs w) (hlen : bs.length + s.size ≤ 140737488355328) (hBw : B ≤ w.heap.size) :
    Calls Tryd.prog 14 #[.pointer (some ⟨b, 0, none⟩), .string s] w fun e w' => e = .returned (.tuple #[.int .i64 s.size, .nilIface]) ∧ (Lib.BuilderAt 44 5 B b (.pointer (some ⟨b, 0, none⟩)) (bs ++ Lib.strCells s) w' ∧ Below B w w') := by
  obtain ⟨i0, hi, hz0, hz1, hz2⟩ := info_parts (show (Tryd.prog.info? 5).map (fun i => (i.zero, i.size, i.bytes)) = some (some (.int .u8 0), 1, 1) by kernel_rfl)
  go_enter Tryd.func14, Tryd.ntmps14
  go_wp2_with (go_at_call 21; refine (check_c B b bs _ h).mono ?_)
  rintro e w1 ⟨rfl, h1, hb1⟩
  obtain ⟨hB, v, hbk, hown, hne⟩ := h1
  have c0 : w1.cell? ⟨b, 0, none⟩ = some (.pointer (some ⟨b, 0, none⟩)) := by rw [Lib.cell_of_heap hbk]; rfl
  have c1 : w1.cell? ⟨b, 1, none⟩ = some v := by rw [Lib.cell_of_heap hbk]; rfl
  go_wp2_with (at_builtin; refine Lib.wpList_append_own_string _ rfl _ _ 42 9 rfl B 5 i0 Tryd.underlying42 Tryd.underlying9 hi hz0 hz1 hz2 _ _ _ rfl hown s rfl ?c3 ?c4 ?c5 ?_)
  case c3 => unfold maxLen; omega
  case c4 => omega
  case c5 => have := hb1.size; omega
  intro v' w2 hown' hgrow _
  have hlt : b < w1.heap.size := (Array.getElem?_eq_some_iff.1 hbk).1
  have hb2 : w2.heap[b]? = some (.cells #[.pointer (some ⟨b, 0, none⟩), v] 44 (0, 0)) := by
    rw [hgrow.block b hlt (fun e => hne e.symm)]
    exact hbk
  have d0 : w2.cell? ⟨b, 0, none⟩ = some (.pointer (some ⟨b, 0, none⟩)) := by rw [Lib.cell_of_heap hb2]; rfl
  have d1 : w2.cell? ⟨b, 1, none⟩ = some v := by rw [Lib.cell_of_heap hb2]; rfl
  have f1 : w2.frozen? ⟨b, 1, none⟩ = false := Lib.frozen_of_heap hb2 1
  obtain ⟨ao, n', cap, rfl⟩ : ∃ ao n' cap, v' = .slice ao n' cap := by
    rcases hown'.2 with ⟨hv, _⟩ | ⟨g, cap, cur, hv, _⟩
    · exact ⟨_, _, _, hv⟩
    · exact ⟨_, _, _, hv⟩
  go_wp2
  go_ret2
  refine ⟨rfl, ?_, ?_⟩
  · exact Lib.BuilderAt.put (T := 44) (e := 5) hB hb2 (bs' := bs ++ Lib.strCells s) (by simpa [Lib.strCells_length] using hown') (by decide)
  · exact (hb1.grown hgrow (by have := hb1.size; omega) (fun k hk => (hown.lt k hk).1)).setCell (p := ⟨b, 1, none⟩) hB _
theorem Bld.call {w w' : World} {B b : Nat} {bs : List Value} {p : Value} (h : Lib.BuilderAt 44 5 B b p bs w) (hb : Below w.heap.size w w') : Lib.BuilderAt 44 5 B b p bs w' := by
  obtain ⟨h1, v, h2, h3, h4⟩ := h
  have keep : ∀ {k : Nat} {o : Obj}, w.heap[k]? = some o → w'.heap[k]? = some o := fun {k o} hk => by
    rw [hb.block k (Array.getElem?_eq_some_iff.1 hk).1]; exact hk
  refine ⟨h1, v, keep h2, ⟨h3.1, ?_⟩, h4⟩
  rcases h3.2 with h | ⟨g, cap, cur, r1, r2, r3, r4⟩
  · exact .inl h
  · exact .inr ⟨g, cap, cur, r1, r2, keep r3, r4⟩

end Go.Proofs.YtpggmnomcahijaaDoor.Fn
