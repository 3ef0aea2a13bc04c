/- Files of a disk. -/
import Derived.Test.YtcmgeadakncgmaaDm5
import Derived.Test.YtcmgeadakncgmaaShelf
namespace Go.Proofs.Ytcmgeadakncgmaa.Fn
open Go Go.Proofs Go.RowKit Go.Maps Go.Sort Go.Shelf
set_option linter.unusedVariables false
set_option linter.unusedSimpArgs false
theorem sorts32 (m : Nat) : AnyZI.SortsIn Try.prog Try.sorted32_ren Fence.wide m :=
  ⟨fun blk off cap ss W hH hblk hsz => callsIn_wide.2 (AnyM.slices_Sort_int Try.sort35 blk off cap ss W hH hblk hsz),
   fun p cap W => callsIn_wide.2 (AnyM.slices_Sort_int_none Try.sort35 p cap W)⟩
theorem keys_c (mb : Nat) (w : World) : Calls Try.prog 33 #[.map (some mb)] w fun e w' => e = .returned (.func (.func 36) #[] #[.pointer (some ⟨w.heap.size, 0, none⟩)]) ∧ w' = w.alloc (.cells #[.map (some mb)] 49) :=
  (callsIn_wide (n := 5)).1 (AnyZI.keys_in Try.keys33 Fence.wide 5 trivial rfl (some mb) w)
/-- A map of files as the shelf sees it: its elements read as nothing. -/
def Rnil (_ : Value) : Option (DataW Unit × List MemPlace) := some (.lit (.bool true), [])
theorem FM.owns {w : World} {mb : Nat} {T : List (Int × Value)} (A : FM w mb T) (hT : T.length ≤ 1000) : ∃ D0 : DataW Unit, w.ownsMap Try.prog 3 Rnil mb T.length D0 ∧ Maps.size D0 = T.length ∧ (intKeys D0).length = T.length := by
  obtain ⟨es, clock, h1, h2, h3, h4⟩ := A
  have hsz : es.size = T.length := by simpa using congrArg List.length h3
  have hl : ((es.toList.map (Go.WideElems.rg Try.prog 3 Rnil)).foldr DataW.insert []).length = T.length := by
    rw [(Go.WideShapes.sorted_perm _).length_eq, List.length_map, Array.length_toList, hsz]
  refine ⟨_, ⟨es, clock, h1, ⟨by rw [hsz]; unfold maxLen; omega, h2, fun x hx => ?_⟩, by omega, rfl⟩, hl, ?_⟩
  · have hm : (x.key, x.val) ∈ T.map (fun p => (iV p.1, id p.2)) := by rw [← h3]; exact List.mem_map.2 ⟨x, hx, rfl⟩
    obtain ⟨p, hp, hpe⟩ := List.mem_map.1 hm
    obtain ⟨l, hlit⟩ := KI3.lit p.1 (h4 p hp)
    simp only [Prod.mk.injEq] at hpe
    rw [hpe.1] at hlit
    exact ⟨(l, .lit (.bool true)), by unfold Go.WideElems.rd; rw [hlit]; rfl⟩
  · show (List.map _ _).length = _
    rw [List.length_map]; exact hl
theorem sorted_c (mb : Nat) (T : List (Int × Value)) (w : World) (A : FM w mb T) (hT : T.length ≤ 1000) : Calls Try.prog 32 #[.func (.func 36) #[] #[.pointer (some ⟨w.heap.size, 0, none⟩)]] (w.alloc (.cells #[.map (some mb)] 49)) fun e w' => ∃ a c, e = .returned (.slice a T.length c) ∧ Below (w.alloc (.cells #[.map (some mb)] 49)).heap.size (w.alloc (.cells #[.map (some mb)] 49)) w' := by
  obtain ⟨D0, hown, hs, hk⟩ := A.owns hT
  have hbl := hown.lt
  have hseq : SeqGives Fence.wide 2 Try.prog 36 #[.pointer (some ⟨w.heap.size, 0, none⟩)] encZ (fun ss => ss.Perm (intKeys D0)) (Maps.size D0) (w.alloc (.cells #[.map (some mb)] 49)) :=
    AnyZI.keys_gives (ρ := Try.keys33_ren) { Try.keys33 with } Fence.wide _ trivial rfl (by omega) w.heap.size mb T.length D0 _ (by simp) (by simp) (by
      obtain ⟨es, clock, hb, Ft, hs, hD⟩ := hown
      exact ⟨es, clock, (Below.heap_alloc _ _ mb hbl).trans hb, Ft, hs, hD⟩)
  have cS := AnyZI.sorted_in Try.sorted32 Fence.wide 5 trivial trivial trivial trivial rfl (by omega) (sorts32 _) (enters_of Try.func35 (by kernel_rfl) rfl) 36 #[.pointer (some ⟨w.heap.size, 0, none⟩)] trivial (enters_of Try.func36 (by kernel_rfl) rfl) _ _ (by rw [hs]; unfold maxLen; omega) (by rw [hs]; omega) _ hseq
  refine ((callsIn_wide (n := 5)).1 cS).mono fun e w' ⟨v, ss, he, hS, hrow, _, hb⟩ => ?_
  have hln : ss.length = T.length := by rw [hS.length_eq, hk]
  rcases hrow.2 with ⟨hv, hz⟩ | ⟨gb, cap, cur, hv, _⟩
  · exact ⟨none, 0, by rw [he, hv]; congr 2; omega, hb⟩
  · exact ⟨_, cap, by rw [he, hv, hln], hb⟩
theorem files_c (B : Nat) (N : Nat → Prop) (tb : Nat) (d : Dk) (w : World) (hB : B ≤ w.heap.size) (hN : ∀ k, N k → k < w.heap.size) (R : DK w B N tb d) (hd : d.down = false) (hlen : d.F.length ≤ 1000) : Calls Try.prog 19 #[.pointer (some ⟨tb, 0, none⟩)] w (Kw.Back fun v w' => (∃ a c, v = .slice a d.F.length c) ∧ Below w.heap.size w w') := by
  have R0 := R
  obtain ⟨Fl, Q, cap, down, starts, fails, left, keep⟩ := d
  dsimp only at hd
  subst hd
  obtain ⟨mb, lv, E, hE, A_tb0, A_mb, O_lv, NE_mb_tb, D_lv_tb, D_lv_mb, FL, M_tb, M_mb, M_lv⟩ := R
  have A_tb : Kw.At w tb #[.map (some mb), lv, .int .i64 cap, .bool false, .int .i64 starts, .bool fails, .int .i64 left, .int .i64 keep] 52 := A_tb0
  clear A_tb0
  replace hE : fD E = Fl := hE
  replace O_lv : Kw.Own w B 56 2 lv Q.length (flatQ Q) := O_lv
  have hnd : (E.map (·.1)).Nodup := by have := A_mb.nodup KI3; rwa [fT_fst] at this
  dsimp only at hlen
  have HB : w = w := rfl
  refine Kw.enter Try.func19 rfl Try.ntmps19 rfl rfl ?_
  refine Kw.WC_seq (fun K1 hK1 => ?_)
  refine Kw.WC_region [some 2] rfl ?_
  refine Kw.WL_v rfl rfl rfl (Kw.R_assign rfl) ?_
  refine Kw.WL_nil ?_
  refine hK1 _ _ ?_; clear hK1 K1
  refine Kw.WC_seq (fun K2 hK2 => ?_)
  refine Kw.WC_seq (fun K3 hK3 => ?_)
  refine Kw.WC_region [some 3, some 4] rfl ?_
  refine Kw.WL_v rfl rfl rfl (Kw.R_move rfl) ?_
  refine Kw.WL_callc rfl rfl rfl rfl F.cl29 rfl (none_no tb mb lv cap false starts fails left keep _ A_tb) ?_; intro ww hww; rw [hww]; clear hww ww
  refine Kw.WL_nil ?_
  refine hK3 _ _ ?_; clear hK3 K3
  refine Kw.WC_false rfl ?_
  refine Kw.WC_skip ?_
  refine hK2 _ _ ?_; clear hK2 K2
  refine Kw.WC_seq (fun K4 hK4 => ?_)
  refine Kw.WC_region [some 5, some 6, some 7, some 8, some 9, some 10, some 2] rfl ?_
  refine Kw.WL_v rfl rfl rfl (Kw.R_move rfl) ?_
  refine Kw.WL_v rfl rfl rfl (Kw.R_nilok rfl) ?_
  refine Kw.WL_v rfl rfl rfl (Kw.R_fieldAddr (o' := 0) (k := 0) rfl Try.underlying52 rfl F.sz49 rfl) ?_
  refine Kw.WL_v rfl rfl rfl (Kw.R_load1 (v := .map (some mb)) rfl Try.underlying49 rfl A_tb rfl) ?_
  refine Kw.WL_callc rfl rfl rfl rfl F.cl33 rfl (keys_c mb w) ?_; intro w1 hw1
  have hso := sorted_c mb (fT E) w A_mb (by rw [fT_length hE]; exact hlen)
  rw [← hw1] at hso
  refine Kw.WL_call rfl rfl rfl rfl F.cl32 rfl (R := fun v w' => (∃ a c, v = .slice a (fT E).length c) ∧ Below w1.heap.size w1 w') (hso.mono (fun e w' ⟨a, c, he, hb⟩ => ⟨_, he, ⟨a, c, rfl⟩, hb⟩)) ?_; rintro _ w2 ⟨⟨fa, fc, rfl⟩, hb⟩
  have hb1 : Below w.heap.size w w1 := by rw [hw1]; exact (Below.refl _ w).alloc (Nat.le_refl _) _
  have hb2 : Below w.heap.size w w2 := Kw.Below.then hb1 (Nat.le_refl _) hb
  refine Kw.WL_v rfl rfl rfl (Kw.R_assign rfl) ?_
  refine Kw.WL_nil ?_
  refine hK4 _ _ ?_; clear hK4 K4
  refine Kw.WC_sub (l' := [(2, .slice fa (fT E).length fc)]) (Kw.Sub.cons rfl Kw.Sub.nil) ?_
  refine Kw.WC_ret ?_
  exact Kw.post_ret1 rfl rfl ⟨_, rfl, ⟨fa, fc, by rw [fT_length hE]⟩, hb2⟩
end Go.Proofs.Ytcmgeadakncgmaa.Fn
