/- New, Sync, Create, Free, Loose, Start and Fail of a disk. -/
import Derived.Test.YtcmgeadakncgmaaDm2
namespace Go.Proofs.Ytcmgeadakncgmaa.Fn
open Go Go.Proofs Go.RowKit
set_option linter.unusedVariables false
set_option linter.unusedSimpArgs false
section
variable {P : Program} {l : Kw.Env} {w : World} {D : Option Tmp} {T : TypeId} {S : String} {FF : Array Edge} {g : Option (Nat × Bool)} {t e s : Nat} {x y z : Operand} {k k' : IntKind}
theorem R_nilboth (hx : Kw.ev l x = some (.slice none 0 0)) (hy : Kw.ev l y = some (.int k 0)) (hz : Kw.ev l z = some (.int k' 0)) (hu : P.underlying t = some (.slice e)) (hs : Kw.sizeIs P e s) :
    Kw.Runs P l ⟨D, .slice t x (some y) (some z) none, T, S, FF, g⟩ w (.slice none 0 0) w := fun ρ h => by
  show (do pure (Next.value (← Instr.sliceAt t (ρ x) (Option.map ρ (some y)) (Option.map ρ (some z)) (Option.map ρ none))) : Sem Next).run P w = _
  rw [h x _ hx]
  refine Kw.run_value ?_
  have hb := Kw.run_bounds (P := P) (w := w) h (isS := true) (len := 0) (cap := 0) (i := 0) (j := 0) (m := 0) (lo := some y) (hi := some z) (mx := none) ⟨k, hy⟩ ⟨k', hz⟩ rfl (Nat.le_refl _) (Nat.le_refl _) (Nat.le_refl _) rfl
  simp only [Instr.sliceAt, Instr.slice, Sem.run_bind, run_underlying hu, Result.andThen_ok, hb, Kw.run_sizeOf hs w, Sem.run_pure]
  rfl
theorem R_convnil {src dst : TypeId} (hs : P.underlying src = some (.slice e)) (he : P.underlying e = some (.int .u8)) (hd : P.underlying dst = some .string) (hx : Kw.ev l x = some (.slice none 0 0)) :
    Kw.Runs P l ⟨D, .convert src dst x, T, S, FF, g⟩ w (.string ⟨#[]⟩) w := fun ρ h => by
  show (do pure (Next.value (← convert src dst (ρ x))) : Sem Next).run P w = _
  rw [h x _ hx]
  refine Kw.run_value ?_
  simp [convert, run_underlying hs, run_underlying he, run_underlying hd, Result.andThen, Conv.bytesToString]
  try rfl
end
theorem get_file {E : List File} {Fl : List (Int × List UInt8)} (hE : fD E = Fl) {n : Int} {s : List UInt8} (h : Kw.tget Fl n = some s) : ∃ fv, Kw.tget E n = some (fv, s) ∧ Kw.tget (fT E) n = some fv := by
  rw [← hE, tget_fD] at h
  cases h1 : Kw.tget E n with
  | none => rw [h1] at h; cases h
  | some x =>
    rw [h1] at h
    simp only [Option.map_some, Option.some.injEq] at h
    exact ⟨x.1, by rw [← h], by rw [tget_fT, h1]; rfl⟩
theorem no_file {E : List File} {Fl : List (Int × List UInt8)} (hE : fD E = Fl) {n : Int} (h : Kw.tget Fl n = none) : Kw.tget (fT E) n = none ∧ Kw.tget E n = none := by
  rw [← hE, tget_fD] at h
  cases h1 : Kw.tget E n with
  | none => exact ⟨by rw [tget_fT, h1]; rfl, rfl⟩
  | some x => rw [h1] at h; cases h
theorem fT_length {E : List File} {Fl : List (Int × List UInt8)} (hE : fD E = Fl) : (fT E).length = Fl.length := by rw [← hE]; simp [fT, fD]
theorem create_hE {E : List File} {Fl : List (Int × List UInt8)} (hE : fD E = Fl) {n : Int} (h : Kw.tget E n = none) (v : Value) : fD (Kw.tset E n (v, [])) = Fl ++ [(n, [])] := by
  rw [Kw.tset_none (Kw.tget_not h), ← hE]; simp [fD]
theorem iterF_sub {w : World} {r b : Nat} {T V : List (Int × Value)} (h : ItF w r b T V) : ∀ p ∈ V, p ∈ T := by
  obtain ⟨_, _, _, _, _, _, _, _, _, _, _, _, _, _, _, _, _, _, hs⟩ := h
  exact hs
theorem mem_fT {E : List File} {p : Int × Value} (h : p ∈ fT E) : ∃ e ∈ E, p = (e.1, e.2.1) := by
  obtain ⟨e, he, hp⟩ := List.mem_map.1 h
  exact ⟨e, he, hp.symm⟩
theorem Files.lenV {w : World} {B : Nat} {q : Nat → Prop} {E : List File} (h : Files w B q E) {p : Int × Value} (hp : p ∈ fT E) : ∃ a c, p.2 = .slice a (lenV p.2) c := by
  obtain ⟨e, he, rfl⟩ := mem_fT hp
  obtain ⟨a, cap, hv⟩ := h.len he
  exact ⟨a, cap, by dsimp only; rw [hv]; rfl⟩
theorem size_list (s : ByteArray) : s.data.toList.length = s.size := by simp
theorem bytes_back (s : ByteArray) : (⟨s.data.toList.toArray⟩ : ByteArray) = s := ByteArray.ext (by simp)
theorem looseAll_next {Q : List (Int × Nat)} {i : Nat} (h : i < Q.length) : looseAll (Q.take (i + 1)) = looseAll (Q.take i) + (Q[i]'h).2 := by rw [take_snocQ h, looseAll_app, looseAll_one]

set_option maxRecDepth 100000 in
set_option maxHeartbeats 4000000 in
theorem new_c (cap : Int) (hc : 0 ≤ cap ∧ cap ≤ 1048576) (w : World) : Calls Try.prog 7 #[.int .i64 cap] w (Kw.Back fun v w' => (∃ tb, v = .tuple #[.pointer (some ⟨tb, 0, none⟩), .int .i64 0] ∧ DK w' w.heap.size (fun _ => False) tb ⟨[], [], cap, false, 0, false, 0, 0⟩) ∧ Below w.heap.size w w') := by
  have HB : Below w.heap.size w w := Below.refl _ _
  refine Kw.enter Try.func7 rfl Try.ntmps7 rfl rfl ?_
  refine Kw.WC_seq (fun K1 hK1 => ?_)
  refine Kw.WC_region [some 2, some 3] rfl ?_
  refine Kw.WL_v rfl rfl rfl (Kw.R_assign rfl) ?_
  refine Kw.WL_v rfl rfl rfl (Kw.R_assign rfl) ?_
  refine Kw.WL_nil ?_
  refine hK1 _ _ ?_; clear hK1 K1
  refine Kw.WC_seq (fun K2 hK2 => ?_)
  refine Kw.WC_seq (fun K3 hK3 => ?_)
  refine Kw.WC_region [some 4, some 5, some 6, some 7, some 8, some 9] rfl ?_
  refine Kw.WL_v rfl rfl rfl (Kw.R_move rfl) ?_
  refine Kw.WL_v rfl rfl rfl (Kw.R_lss (z := false) rfl rfl (decide_eq_false (by omega))) ?_
  refine Kw.WL_v rfl rfl rfl (Kw.R_move rfl) ?_
  refine Kw.WL_v rfl rfl rfl (Kw.R_move rfl) ?_
  refine Kw.WL_v rfl rfl rfl (Kw.R_gtr (z := false) rfl rfl (decide_eq_false (by omega))) ?_
  refine Kw.WL_v rfl rfl rfl (Kw.R_pickf rfl rfl) ?_
  refine Kw.WL_nil ?_
  refine hK3 _ _ ?_; clear hK3 K3
  refine Kw.WC_sub (l' := [(0, .int .i64 cap), (9, .bool false)]) (Kw.Sub.cons rfl (Kw.Sub.cons rfl Kw.Sub.nil)) ?_
  refine Kw.WC_false rfl ?_
  refine Kw.WC_skip ?_
  refine hK2 _ _ ?_; clear hK2 K2
  refine Kw.WC_seq (fun K4 hK4 => ?_)
  refine Kw.WC_region [some 10, some 11, some 12, some 13, some 2, some 3] rfl ?_
  refine Kw.WL_makeMap rfl rfl ?_; intro mb w5 N_mb
  have A_mb : FM w5 mb [] := Kw.TMap.empty N_mb
  have G_mb := N_mb.ge HB (Nat.le_refl _); replace HB := N_mb.below HB (Nat.le_refl _); clear N_mb
  refine Kw.WL_v rfl rfl rfl (Kw.R_move rfl) ?_
  refine Kw.WL_v rfl rfl rfl (Kw.R_build (cs := #[.map (some mb), .slice none 0 0, .int .i64 cap, .bool false, .int .i64 0, .bool false, .int .i64 0, .int .i64 0]) rfl (fun w => by kernel_rfl)) ?_
  refine Kw.WL_box rfl rfl rfl ?_; intro tb w6 N_tb
  have L_mb_tb : mb < tb := (by rw [N_tb.num]; exact A_mb.lt); replace A_mb := A_mb.new N_tb
  have A_tb : Kw.At w6 tb #[.map (some mb), .slice none 0 0, .int .i64 cap, .bool false, .int .i64 0, .bool false, .int .i64 0, .int .i64 0] 52 := N_tb.at_
  have G_tb := N_tb.ge HB (Nat.le_refl _); replace HB := N_tb.below HB (Nat.le_refl _); clear N_tb
  refine Kw.WL_v rfl rfl rfl (Kw.R_assign rfl) ?_
  refine Kw.WL_v rfl rfl rfl (Kw.R_assign rfl) ?_
  refine Kw.WL_nil ?_
  refine hK4 _ _ ?_; clear hK4 K4
  refine Kw.WC_sub (l' := [(2, .pointer (some ⟨tb, 0, none⟩)), (3, .int .i64 0)]) (Kw.Sub.cons rfl (Kw.Sub.cons rfl Kw.Sub.nil)) ?_
  refine Kw.WC_ret ?_
  exact Kw.post_ret2 rfl rfl rfl ⟨_, rfl, ⟨tb, rfl, ⟨mb, .slice none 0 0, [], rfl, A_tb, A_mb, Kw.Own.nil _ _ _ _, Nat.ne_of_lt L_mb_tb, (fun h => by cases h), (fun h => by cases h), Files.nil _ _ _, ⟨G_tb, id⟩, ⟨G_mb, id⟩, (fun g h => by cases h)⟩⟩, HB⟩

set_option maxRecDepth 100000 in
set_option maxHeartbeats 4000000 in
theorem sink_c (B : Nat) (N : Nat → Prop) (tb : Nat) (d : Dk) (w : World) (hB : B ≤ w.heap.size) (hN : ∀ k, N k → k < w.heap.size) (R : DK w B N tb d) (hd : d.down = false) (W : WF d) : Calls Try.prog 27 #[.pointer (some ⟨tb, 0, none⟩)] w fun e w' => e = .returned (.int .i64 61) ∧ DK w' B N tb (sinkD d) ∧ Kw.Mut (Mine B N) w w' := by
  have R0 := R
  obtain ⟨Fl, Q, cap, down, starts, fails, left, keep⟩ := d
  dsimp only at hd
  subst hd
  obtain ⟨mb, lv, E, hE, A_tb0, A_mb, O_lv, NE_mb_tb, D_lv_tb, D_lv_mb, FL, M_tb, M_mb, M_lv⟩ := R
  have A_tb : Kw.At w tb #[.map (some mb), lv, .int .i64 cap, .bool false, .int .i64 starts, .bool fails, .int .i64 left, .int .i64 keep] 52 := A_tb0
  clear A_tb0
  replace hE : fD E = Fl := hE
  replace O_lv : Kw.Own w B 56 2 lv Q.length (flatQ Q) := O_lv
  have hnd : (E.map (·.1)).Nodup := by have := A_mb.nodup KI3; rwa [fT_fst] at this
  have HB : Kw.Mut (fun k => k = tb ∨ k = mb) w w := Kw.Mut.refl _ _
  refine Kw.enter Try.func27 rfl Try.ntmps27 rfl rfl ?_
  refine Kw.WC_seq (fun K1 hK1 => ?_)
  refine Kw.WC_region [some 2] rfl ?_
  refine Kw.WL_v rfl rfl rfl (Kw.R_assign rfl) ?_
  refine Kw.WL_nil ?_
  refine hK1 _ _ ?_; clear hK1 K1
  refine Kw.WC_seq (fun K2 hK2 => ?_)
  refine Kw.WC_region [some 3, some 4, some 5, some 6, some 7, some 8] rfl ?_
  refine Kw.WL_v rfl rfl rfl (Kw.R_move rfl) ?_
  refine Kw.WL_v rfl rfl rfl (Kw.R_move rfl) ?_
  refine Kw.WL_v rfl rfl rfl (Kw.R_nilok rfl) ?_
  refine Kw.WL_v rfl rfl rfl (Kw.R_fieldAddr (o' := 7) (k := 0) rfl Try.underlying52 rfl F.sz3 rfl) ?_
  refine Kw.WL_v rfl rfl rfl (Kw.R_load1 (v := .int .i64 keep) rfl Try.underlying3 rfl A_tb rfl) ?_
  refine Kw.WL_callc rfl rfl rfl rfl F.cl11 rfl (crash_c B N tb _ W rfl _ hB hN R0 keep W.keep) ?_; rintro w1 ⟨R2, hm⟩
  clear A_tb A_mb O_lv HB
  refine Kw.WL_sub (l' := [(8, .int .i64 0)]) (Kw.Sub.cons rfl Kw.Sub.nil) ?_
  refine Kw.WL_nil ?_
  refine hK2 _ _ ?_; clear hK2 K2
  refine Kw.WC_seq (fun K3 hK3 => ?_)
  refine Kw.WC_region [some 2] rfl ?_
  refine Kw.WL_v rfl rfl rfl (Kw.R_assign rfl) ?_
  refine Kw.WL_nil ?_
  refine hK3 _ _ ?_; clear hK3 K3
  refine Kw.WC_ret ?_
  exact Kw.post_ret1 rfl rfl ⟨rfl, R2, hm⟩

set_option maxRecDepth 100000 in
set_option maxHeartbeats 4000000 in
theorem sync_c (B : Nat) (N : Nat → Prop) (tb : Nat) (d : Dk) (w : World) (hB : B ≤ w.heap.size) (hN : ∀ k, N k → k < w.heap.size) (R : DK w B N tb d) (hd : d.down = false) (W : WF d) (hl : -1000000000 ≤ d.left ∧ d.left ≤ 1000000000) : Calls Try.prog 9 #[.pointer (some ⟨tb, 0, none⟩)] w fun e w' => e = .returned (.int .i64 (syncD d).1) ∧ DK w' B N tb (syncD d).2 ∧ Kw.Mut (Mine B N) w w' := by
  have R0 := R
  obtain ⟨Fl, Q, cap, down, starts, fails, left, keep⟩ := d
  dsimp only at hd
  subst hd
  obtain ⟨mb, lv, E, hE, A_tb0, A_mb, O_lv, NE_mb_tb, D_lv_tb, D_lv_mb, FL, M_tb, M_mb, M_lv⟩ := R
  have A_tb : Kw.At w tb #[.map (some mb), lv, .int .i64 cap, .bool false, .int .i64 starts, .bool fails, .int .i64 left, .int .i64 keep] 52 := A_tb0
  clear A_tb0
  replace hE : fD E = Fl := hE
  replace O_lv : Kw.Own w B 56 2 lv Q.length (flatQ Q) := O_lv
  have hnd : (E.map (·.1)).Nodup := by have := A_mb.nodup KI3; rwa [fT_fst] at this
  dsimp only at hl
  have HB : Kw.Mut (fun k => k = tb ∨ k = mb) w w := Kw.Mut.refl _ _
  refine Kw.enter Try.func9 rfl Try.ntmps9 rfl rfl ?_
  refine Kw.WC_seq (fun K1 hK1 => ?_)
  refine Kw.WC_region [some 2] rfl ?_
  refine Kw.WL_v rfl rfl rfl (Kw.R_assign rfl) ?_
  refine Kw.WL_nil ?_
  refine hK1 _ _ ?_; clear hK1 K1
  refine Kw.WC_seq (fun K2 hK2 => ?_)
  refine Kw.WC_region [some 4, some 5, some 3] rfl ?_
  refine Kw.WL_v rfl rfl rfl (Kw.R_move rfl) ?_
  refine Kw.WL_callc rfl rfl rfl rfl F.cl28 rfl (ready_up tb mb lv cap starts fails left keep _ A_tb) ?_; intro ww hww; rw [hww]; clear hww ww
  refine Kw.WL_v rfl rfl rfl (Kw.R_assign rfl) ?_
  refine Kw.WL_nil ?_
  refine hK2 _ _ ?_; clear hK2 K2
  refine Kw.WC_seq (fun K3 hK3 => ?_)
  refine Kw.WC_block ?_
  refine Kw.WC_seq (fun K4 hK4 => ?_)
  refine Kw.WC_region [some 7, some 8, some 6] rfl ?_
  refine Kw.WL_v rfl rfl rfl (Kw.R_move rfl) ?_
  refine Kw.WL_v rfl rfl rfl (Kw.R_nei (z := false) rfl rfl (decide_eq_true (by omega))) ?_
  refine Kw.WL_v rfl rfl rfl (Kw.R_assign rfl) ?_
  refine Kw.WL_nil ?_
  refine hK4 _ _ ?_; clear hK4 K4
  refine Kw.WC_false rfl ?_
  refine Kw.WC_seq (fun K5 hK5 => ?_)
  refine Kw.WC_region [some 11, some 12, some 10] rfl ?_
  refine Kw.WL_v rfl rfl rfl (Kw.R_move rfl) ?_
  cases fails
  ·
    refine Kw.WL_callc rfl rfl rfl rfl F.cl26 rfl (sinks_no tb mb lv cap false starts left keep _ A_tb) ?_; intro ww hww; rw [hww]; clear hww ww
    refine Kw.WL_v rfl rfl rfl (Kw.R_assign rfl) ?_
    refine Kw.WL_nil ?_
    refine hK5 _ _ ?_; clear hK5 K5
    refine Kw.WC_sub (l' := [(0, .pointer (some ⟨tb, 0, none⟩)), (10, .bool false)]) (Kw.Sub.cons rfl (Kw.Sub.cons rfl Kw.Sub.nil)) ?_
    refine Kw.WC_false rfl ?_
    refine Kw.WC_skip ?_
    refine Kw.QN_block ?_
    refine hK3 _ _ ?_; clear hK3 K3
    refine Kw.WC_seq (fun K6 hK6 => ?_)
    refine Kw.WC_region [some 15, some 16, some 17, none] rfl ?_
    refine Kw.WL_v rfl rfl rfl (Kw.R_move rfl) ?_
    refine Kw.WL_v rfl rfl rfl (Kw.R_nilok rfl) ?_
    refine Kw.WL_v rfl rfl rfl (Kw.R_fieldAddr (o' := 1) (k := 0) rfl Try.underlying52 rfl F.sz50 rfl) ?_
    refine Kw.WL_store1 (ds := #[.map (some mb), .slice none 0 0, .int .i64 cap, .bool false, .int .i64 starts, .bool false, .int .i64 left, .int .i64 keep]) rfl rfl rfl F.sz50 A_tb (by show 1 < 8; decide) rfl rfl (rfl) ?_; intro w7 M_tb
    replace A_mb := A_mb.chg M_tb.chg NE_mb_tb
    replace A_tb : Kw.At w7 tb #[.map (some mb), .slice none 0 0, .int .i64 cap, .bool false, .int .i64 starts, .bool false, .int .i64 left, .int .i64 keep] 52 := M_tb.at_ A_tb
    replace O_lv := O_lv.wrote M_tb D_lv_tb
    replace HB := HB.chg M_tb.chg (.inl (.inl rfl)); clear M_tb
    refine Kw.WL_nil ?_
    refine hK6 _ _ ?_; clear hK6 K6
    refine Kw.WC_seq (fun K8 hK8 => ?_)
    refine Kw.WC_region [some 2] rfl ?_
    refine Kw.WL_v rfl rfl rfl (Kw.R_assign rfl) ?_
    refine Kw.WL_nil ?_
    refine hK8 _ _ ?_; clear hK8 K8
    refine Kw.WC_ret ?_
    have hr : syncD ⟨Fl, Q, cap, false, starts, false, left, keep⟩ = (0, ⟨Fl, [], cap, false, starts, false, left, keep⟩) := by simp [syncD, orSink, tickB, tickD]
    rw [hr]
    exact Kw.post_ret1 rfl rfl ⟨rfl, ⟨mb, .slice none 0 0, E, hE, A_tb, A_mb, Kw.Own.nil _ _ _ _, NE_mb_tb, (fun h => by cases h), (fun h => by cases h), (FL.mut HB (fun k hk => by rcases hk with h | h; exact .inr (.inl h); exact .inr (.inr (.inl h)))).mono (fun k _ hk => by rcases hk with h | h | h | h; exact .inl h; exact .inr (.inl h); exact .inr (.inr (.inl h)); cases h), M_tb, M_mb, (fun g h => by cases h)⟩, HB.mono (fun k hk => by rcases hk with h | h; rw [h]; exact M_tb; rw [h]; exact M_mb)⟩
  ·
    by_cases hlt : left - 1 < 0
    ·
      have hsk := sinks_yes tb mb lv cap false starts left keep w A_tb hl; rw [decide_eq_true hlt] at hsk
      refine Kw.WL_callc rfl rfl rfl rfl F.cl26 rfl hsk ?_; rintro w9 ⟨B_tb, hm⟩; clear hsk
      replace A_mb := A_mb.mut hm (NE_mb_tb)
      replace O_lv := O_lv.mut hm (fun g hg e => D_lv_tb (by rw [hg, e]))
      clear A_tb; have A_tb := B_tb; clear B_tb; replace HB := HB.then_ hm (fun k hk => .inl (.inl hk)); clear hm
      refine Kw.WL_v rfl rfl rfl (Kw.R_assign rfl) ?_
      refine Kw.WL_nil ?_
      refine hK5 _ _ ?_; clear hK5 K5
      refine Kw.WC_sub (l' := [(0, .pointer (some ⟨tb, 0, none⟩)), (10, .bool true)]) (Kw.Sub.cons rfl (Kw.Sub.cons rfl Kw.Sub.nil)) ?_
      refine Kw.WC_true rfl ?_
      refine Kw.WC_seq (fun K10 hK10 => ?_)
      refine Kw.WC_region [some 13, some 14, some 2] rfl ?_
      refine Kw.WL_v rfl rfl rfl (Kw.R_move rfl) ?_
      have R2 : DK w9 B N tb ⟨Fl, Q, cap, false, starts, true, left - 1, keep⟩ := ⟨mb, lv, E, hE, A_tb, A_mb, O_lv, NE_mb_tb, D_lv_tb, D_lv_mb, FL.mut HB (fun k hk => by rcases hk with h | h; exact .inr (.inl h); exact .inr (.inr (.inl h))), M_tb, M_mb, M_lv⟩
      have hB1 : B ≤ w9.heap.size := Nat.le_trans hB HB.size; have hN1 : ∀ k, N k → k < w9.heap.size := fun k hk => Nat.lt_of_lt_of_le (hN k hk) HB.size
      refine Kw.WL_callc rfl rfl rfl rfl F.cl27 rfl (sink_c B N tb _ _ hB1 hN1 R2 rfl W.tick) ?_; rintro w9 ⟨R3, hm⟩
      replace HB := (HB.mono (fun k hk => by rcases hk with h | h; rw [h]; exact M_tb; rw [h]; exact M_mb)).then_ hm (fun k hk => .inl hk)
      clear A_tb A_mb O_lv R2 hm
      refine Kw.WL_sub (l' := [(14, .int .i64 61)]) (Kw.Sub.cons rfl Kw.Sub.nil) ?_
      refine Kw.WL_v rfl rfl rfl (Kw.R_assign rfl) ?_
      refine Kw.WL_nil ?_
      refine hK10 _ _ ?_; clear hK10 K10
      refine Kw.WC_ret ?_
      refine Kw.QR_block ?_
      refine Kw.QR_then ?_; clear hK3 K3
      have hr : syncD ⟨Fl, Q, cap, false, starts, true, left, keep⟩ = (61, sinkD (tickD ⟨Fl, Q, cap, false, starts, true, left, keep⟩)) := by simp [syncD, orSink, tickB, hlt]
      rw [hr]
      exact Kw.post_ret1 rfl rfl ⟨rfl, R3, HB⟩
    ·
      have hsk := sinks_yes tb mb lv cap false starts left keep w A_tb hl; rw [decide_eq_false hlt] at hsk
      refine Kw.WL_callc rfl rfl rfl rfl F.cl26 rfl hsk ?_; rintro w11 ⟨B_tb, hm⟩; clear hsk
      replace A_mb := A_mb.mut hm (NE_mb_tb)
      replace O_lv := O_lv.mut hm (fun g hg e => D_lv_tb (by rw [hg, e]))
      clear A_tb; have A_tb := B_tb; clear B_tb; replace HB := HB.then_ hm (fun k hk => .inl (.inl hk)); clear hm
      refine Kw.WL_v rfl rfl rfl (Kw.R_assign rfl) ?_
      refine Kw.WL_nil ?_
      refine hK5 _ _ ?_; clear hK5 K5
      refine Kw.WC_sub (l' := [(0, .pointer (some ⟨tb, 0, none⟩)), (10, .bool false)]) (Kw.Sub.cons rfl (Kw.Sub.cons rfl Kw.Sub.nil)) ?_
      refine Kw.WC_false rfl ?_
      refine Kw.WC_skip ?_
      refine Kw.QN_block ?_
      refine hK3 _ _ ?_; clear hK3 K3
      refine Kw.WC_seq (fun K12 hK12 => ?_)
      refine Kw.WC_region [some 15, some 16, some 17, none] rfl ?_
      refine Kw.WL_v rfl rfl rfl (Kw.R_move rfl) ?_
      refine Kw.WL_v rfl rfl rfl (Kw.R_nilok rfl) ?_
      refine Kw.WL_v rfl rfl rfl (Kw.R_fieldAddr (o' := 1) (k := 0) rfl Try.underlying52 rfl F.sz50 rfl) ?_
      refine Kw.WL_store1 (ds := #[.map (some mb), .slice none 0 0, .int .i64 cap, .bool false, .int .i64 starts, .bool true, .int .i64 (left - 1), .int .i64 keep]) rfl rfl rfl F.sz50 A_tb (by show 1 < 8; decide) rfl rfl (rfl) ?_; intro w13 M_tb
      replace A_mb := A_mb.chg M_tb.chg NE_mb_tb
      replace A_tb : Kw.At w13 tb #[.map (some mb), .slice none 0 0, .int .i64 cap, .bool false, .int .i64 starts, .bool true, .int .i64 (left - 1), .int .i64 keep] 52 := M_tb.at_ A_tb
      replace O_lv := O_lv.wrote M_tb D_lv_tb
      replace HB := HB.chg M_tb.chg (.inl (.inl rfl)); clear M_tb
      refine Kw.WL_nil ?_
      refine hK12 _ _ ?_; clear hK12 K12
      refine Kw.WC_seq (fun K14 hK14 => ?_)
      refine Kw.WC_region [some 2] rfl ?_
      refine Kw.WL_v rfl rfl rfl (Kw.R_assign rfl) ?_
      refine Kw.WL_nil ?_
      refine hK14 _ _ ?_; clear hK14 K14
      refine Kw.WC_ret ?_
      have hr : syncD ⟨Fl, Q, cap, false, starts, true, left, keep⟩ = (0, ⟨Fl, [], cap, false, starts, true, left - 1, keep⟩) := by simp [syncD, orSink, tickB, tickD, show ¬ left - 1 < 0 from hlt]
      rw [hr]
      exact Kw.post_ret1 rfl rfl ⟨rfl, ⟨mb, .slice none 0 0, E, hE, A_tb, A_mb, Kw.Own.nil _ _ _ _, NE_mb_tb, (fun h => by cases h), (fun h => by cases h), (FL.mut HB (fun k hk => by rcases hk with h | h; exact .inr (.inl h); exact .inr (.inr (.inl h)))).mono (fun k _ hk => by rcases hk with h | h | h | h; exact .inl h; exact .inr (.inl h); exact .inr (.inr (.inl h)); cases h), M_tb, M_mb, (fun g h => by cases h)⟩, HB.mono (fun k hk => by rcases hk with h | h; rw [h]; exact M_tb; rw [h]; exact M_mb)⟩

set_option maxRecDepth 100000 in
set_option maxHeartbeats 4000000 in
theorem create_c (B : Nat) (N : Nat → Prop) (tb : Nat) (d : Dk) (w : World) (hB : B ≤ w.heap.size) (hN : ∀ k, N k → k < w.heap.size) (R : DK w B N tb d) (hd : d.down = false) (W : WF d) (hl : -1000000000 ≤ d.left ∧ d.left ≤ 1000000000) (n : Int) (hn : okI n) (h0 : 0 ≤ n) (hg : Kw.tget d.F n = none) (hlen : d.F.length < 100) : Calls Try.prog 8 #[.pointer (some ⟨tb, 0, none⟩), .int .i64 n] w fun e w' => e = .returned (.int .i64 (createD d n).1) ∧ DK w' B N tb (createD d n).2 ∧ Kw.Mut (Mine B N) w w' := by
  have R0 := R
  obtain ⟨Fl, Q, cap, down, starts, fails, left, keep⟩ := d
  dsimp only at hd
  subst hd
  obtain ⟨mb, lv, E, hE, A_tb0, A_mb, O_lv, NE_mb_tb, D_lv_tb, D_lv_mb, FL, M_tb, M_mb, M_lv⟩ := R
  have A_tb : Kw.At w tb #[.map (some mb), lv, .int .i64 cap, .bool false, .int .i64 starts, .bool fails, .int .i64 left, .int .i64 keep] 52 := A_tb0
  clear A_tb0
  replace hE : fD E = Fl := hE
  replace O_lv : Kw.Own w B 56 2 lv Q.length (flatQ Q) := O_lv
  have hnd : (E.map (·.1)).Nodup := by have := A_mb.nodup KI3; rwa [fT_fst] at this
  dsimp only at hl hg hlen
  obtain ⟨hgn, hgE⟩ := no_file hE hg
  have HB : Kw.Mut (fun k => k = tb ∨ k = mb) w w := Kw.Mut.refl _ _
  refine Kw.enter Try.func8 rfl Try.ntmps8 rfl rfl ?_
  refine Kw.WC_seq (fun K1 hK1 => ?_)
  refine Kw.WC_region [some 4] rfl ?_
  refine Kw.WL_v rfl rfl rfl (Kw.R_assign rfl) ?_
  refine Kw.WL_nil ?_
  refine hK1 _ _ ?_; clear hK1 K1
  refine Kw.WC_seq (fun K2 hK2 => ?_)
  refine Kw.WC_region [some 6, some 7, some 8, some 5] rfl ?_
  refine Kw.WL_v rfl rfl rfl (Kw.R_move rfl) ?_
  refine Kw.WL_v rfl rfl rfl (Kw.R_move rfl) ?_
  refine Kw.WL_callc rfl rfl rfl rfl F.cl25 rfl (has_no tb mb lv cap starts fails left keep _ A_tb (fT E) A_mb n hn hgn) ?_; intro ww hww; rw [hww]; clear hww ww
  refine Kw.WL_v rfl rfl rfl (Kw.R_assign rfl) ?_
  refine Kw.WL_nil ?_
  refine hK2 _ _ ?_; clear hK2 K2
  refine Kw.WC_seq (fun K3 hK3 => ?_)
  refine Kw.WC_block ?_
  refine Kw.WC_seq (fun K4 hK4 => ?_)
  refine Kw.WC_seq (fun K5 hK5 => ?_)
  refine Kw.WC_region [some 10, some 11, some 9] rfl ?_
  refine Kw.WL_v rfl rfl rfl (Kw.R_move rfl) ?_
  refine Kw.WL_v rfl rfl rfl (Kw.R_eqi (z := false) rfl rfl (decide_eq_false (by omega))) ?_
  refine Kw.WL_v rfl rfl rfl (Kw.R_assign rfl) ?_
  refine Kw.WL_nil ?_
  refine hK5 _ _ ?_; clear hK5 K5
  refine Kw.WC_sub (l' := [(0, .pointer (some ⟨tb, 0, none⟩)), (1, .int .i64 n), (5, .int .i64 4), (9, .bool false)]) (Kw.Sub.cons rfl (Kw.Sub.cons rfl (Kw.Sub.cons rfl (Kw.Sub.cons rfl Kw.Sub.nil)))) ?_
  refine Kw.WC_false rfl ?_
  refine Kw.WC_region [some 12, some 13, some 9] rfl ?_
  refine Kw.WL_v rfl rfl rfl (Kw.R_move rfl) ?_
  refine Kw.WL_v rfl rfl rfl (Kw.R_eqi (z := false) rfl rfl (decide_eq_false (by omega))) ?_
  refine Kw.WL_v rfl rfl rfl (Kw.R_assign rfl) ?_
  refine Kw.WL_nil ?_
  refine hK4 _ _ ?_; clear hK4 K4
  refine Kw.WC_false rfl ?_
  refine Kw.WC_seq (fun K6 hK6 => ?_)
  refine Kw.WC_region [some 16, some 17, some 15] rfl ?_
  refine Kw.WL_v rfl rfl rfl (Kw.R_move rfl) ?_
  refine Kw.WL_v rfl rfl rfl (Kw.R_lss (z := false) rfl rfl (decide_eq_false (by omega))) ?_
  refine Kw.WL_v rfl rfl rfl (Kw.R_assign rfl) ?_
  refine Kw.WL_nil ?_
  refine hK6 _ _ ?_; clear hK6 K6
  refine Kw.WC_false rfl ?_
  refine Kw.WC_seq (fun K7 hK7 => ?_)
  refine Kw.WC_region [some 19, some 20, some 18] rfl ?_
  refine Kw.WL_v rfl rfl rfl (Kw.R_move rfl) ?_
  refine Kw.WL_v rfl rfl rfl (Kw.R_eqi (z := false) rfl rfl (decide_eq_false (by omega))) ?_
  refine Kw.WL_v rfl rfl rfl (Kw.R_assign rfl) ?_
  refine Kw.WL_nil ?_
  refine hK7 _ _ ?_; clear hK7 K7
  refine Kw.WC_sub (l' := [(0, .pointer (some ⟨tb, 0, none⟩)), (1, .int .i64 n), (18, .bool false)]) (Kw.Sub.cons rfl (Kw.Sub.cons rfl (Kw.Sub.cons rfl Kw.Sub.nil))) ?_
  refine Kw.WC_false rfl ?_
  refine Kw.WC_seq (fun K8 hK8 => ?_)
  refine Kw.WC_region [some 22, some 23, some 24, some 25, some 26, some 27, some 21] rfl ?_
  refine Kw.WL_v rfl rfl rfl (Kw.R_move rfl) ?_
  refine Kw.WL_v rfl rfl rfl (Kw.R_nilok rfl) ?_
  refine Kw.WL_v rfl rfl rfl (Kw.R_fieldAddr (o' := 0) (k := 0) rfl Try.underlying52 rfl F.sz49 rfl) ?_
  refine Kw.WL_v rfl rfl rfl (Kw.R_load1 (v := .map (some mb)) rfl Try.underlying49 rfl A_tb rfl) ?_
  refine Kw.WL_v rfl rfl rfl (Kw.R_lenMap Try.underlying49 rfl A_mb) ?_
  refine Kw.WL_v rfl rfl rfl (Kw.R_geq (z := false) rfl rfl (decide_eq_false (by rw [fT_length hE]; omega))) ?_
  refine Kw.WL_v rfl rfl rfl (Kw.R_assign rfl) ?_
  refine Kw.WL_nil ?_
  refine hK8 _ _ ?_; clear hK8 K8
  refine Kw.WC_sub (l' := [(0, .pointer (some ⟨tb, 0, none⟩)), (1, .int .i64 n), (21, .bool false)]) (Kw.Sub.cons rfl (Kw.Sub.cons rfl (Kw.Sub.cons rfl Kw.Sub.nil))) ?_
  refine Kw.WC_false rfl ?_
  refine Kw.WC_seq (fun K9 hK9 => ?_)
  refine Kw.WC_region [some 29, some 30, some 28] rfl ?_
  refine Kw.WL_v rfl rfl rfl (Kw.R_move rfl) ?_
  cases fails
  ·
    refine Kw.WL_callc rfl rfl rfl rfl F.cl26 rfl (sinks_no tb mb lv cap false starts left keep _ A_tb) ?_; intro ww hww; rw [hww]; clear hww ww
    refine Kw.WL_v rfl rfl rfl (Kw.R_assign rfl) ?_
    refine Kw.WL_nil ?_
    refine hK9 _ _ ?_; clear hK9 K9
    refine Kw.WC_false rfl ?_
    refine Kw.WC_skip ?_
    refine Kw.QN_block ?_
    refine hK3 _ _ ?_; clear hK3 K3
    refine Kw.WC_seq (fun K10 hK10 => ?_)
    refine Kw.WC_region [some 33, some 34, some 35, some 36, some 37, some 38, none] rfl ?_
    refine Kw.WL_v rfl rfl rfl (Kw.R_move rfl) ?_
    refine Kw.WL_v rfl rfl rfl (Kw.R_nilok rfl) ?_
    refine Kw.WL_v rfl rfl rfl (Kw.R_fieldAddr (o' := 0) (k := 0) rfl Try.underlying52 rfl F.sz49 rfl) ?_
    refine Kw.WL_v rfl rfl rfl (Kw.R_load1 (v := .map (some mb)) rfl Try.underlying49 rfl A_tb rfl) ?_
    refine Kw.WL_v rfl rfl rfl (Kw.R_move rfl) ?_
    obtain ⟨gf, w11, N_gf⟩ : ∃ b_ w2_, Kw.Newb w b_ #[] 5 w2_ := ⟨_, _, rfl, rfl⟩
    refine Kw.WL_v rfl rfl rfl (Kw.R_buildSlice rfl (fun w => by kernel_rfl) N_gf) ?_
    have L_mb_gf : mb < gf := (by rw [N_gf.num]; exact A_mb.lt); replace A_mb := A_mb.new N_gf
    have L_tb_gf := N_gf.ne A_tb; replace A_tb := N_gf.keep A_tb
    have A_gf : Kw.At w11 gf #[] 5 := N_gf.at_
    have D_lv_gf := O_lv.ne_new N_gf; replace O_lv := O_lv.new N_gf
    have G_gf := HB.ge N_gf; replace HB := HB.new N_gf; clear N_gf
    refine Kw.WL_mapUpdate (a := n) (u := (.slice (some ⟨gf, 0, none⟩) 0 0)) KI3 rfl rfl rfl rfl Try.underlying49 A_mb hn ?_; intro w12 C_mb B_mb; clear A_mb; have A_mb := B_mb; clear B_mb
    replace A_tb := A_tb.chg C_mb (Ne.symm NE_mb_tb)
    replace A_gf := A_gf.chg C_mb (Nat.ne_of_gt L_mb_gf)
    replace O_lv := C_mb.keepO O_lv D_lv_mb
    replace HB := HB.chg C_mb (.inl (.inr rfl))
    clear C_mb
    refine Kw.WL_nil ?_
    refine hK10 _ _ ?_; clear hK10 K10
    refine Kw.WC_sub (l' := []) Kw.Sub.nil ?_
    refine Kw.WC_seq (fun K13 hK13 => ?_)
    refine Kw.WC_region [some 4] rfl ?_
    refine Kw.WL_v rfl rfl rfl (Kw.R_assign rfl) ?_
    refine Kw.WL_nil ?_
    refine hK13 _ _ ?_; clear hK13 K13
    refine Kw.WC_ret ?_
    have hr : createD ⟨Fl, Q, cap, false, starts, false, left, keep⟩ n = (0, ⟨Fl ++ [(n, [])], Q, cap, false, starts, false, left, keep⟩) := by simp [createD, orSink, tickB, tickD]
    rw [hr]
    rw [tset_fT (s := [])] at A_mb
    have hq : ∀ g, Kw.ob (.slice (some ⟨gf, 0, none⟩) 0 0) = some g → ¬ (N g ∨ g = tb ∨ g = mb ∨ Kw.ob lv = some g) := fun g hg hk => by
      obtain rfl : gf = g := Option.some.inj hg
      rcases hk with h | h | h | h
      · exact absurd (hN _ h) (by omega)
      · exact absurd h (by omega)
      · exact absurd h (by omega)
      · exact D_lv_gf h
    have hFL := FL.set hnd (n := n) (v := (.slice (some ⟨gf, 0, none⟩) 0 0)) (s := []) ⟨by simp [byV], .inr ⟨gf, 0, #[], rfl, Nat.le_trans hB G_gf, A_gf, Nat.le_refl _, by unfold maxLen; omega, rfl, rfl⟩⟩ hq HB (fun e he _ g hg => ⟨fun hk => (FL.1 e he).2 g hg (by rcases hk with h | h; exact .inr (.inl h); exact .inr (.inr (.inl h))), fun hb => by
      obtain rfl : gf = g := Option.some.inj hb
      exact absurd ((FL.1 e he).1.lt hg) (by omega)⟩)
    exact Kw.post_ret1 rfl rfl ⟨rfl, ⟨mb, lv, Kw.tset E n ((.slice (some ⟨gf, 0, none⟩) 0 0), []), create_hE hE hgE _, A_tb, A_mb, O_lv, NE_mb_tb, D_lv_tb, D_lv_mb, hFL, M_tb, M_mb, M_lv⟩, HB.mono (fun k hk => by rcases hk with h | h; rw [h]; exact M_tb; rw [h]; exact M_mb)⟩
  ·
    by_cases hlt : left - 1 < 0
    ·
      have hsk := sinks_yes tb mb lv cap false starts left keep w A_tb hl; rw [decide_eq_true hlt] at hsk
      refine Kw.WL_callc rfl rfl rfl rfl F.cl26 rfl hsk ?_; rintro w14 ⟨B_tb, hm⟩; clear hsk
      replace A_mb := A_mb.mut hm (NE_mb_tb)
      replace O_lv := O_lv.mut hm (fun g hg e => D_lv_tb (by rw [hg, e]))
      clear A_tb; have A_tb := B_tb; clear B_tb; replace HB := HB.then_ hm (fun k hk => .inl (.inl hk)); clear hm
      refine Kw.WL_v rfl rfl rfl (Kw.R_assign rfl) ?_
      refine Kw.WL_nil ?_
      refine hK9 _ _ ?_; clear hK9 K9
      refine Kw.WC_true rfl ?_
      refine Kw.WC_seq (fun K15 hK15 => ?_)
      refine Kw.WC_region [some 31, some 32, some 4] rfl ?_
      refine Kw.WL_v rfl rfl rfl (Kw.R_move rfl) ?_
      have R2 : DK w14 B N tb ⟨Fl, Q, cap, false, starts, true, left - 1, keep⟩ := ⟨mb, lv, E, hE, A_tb, A_mb, O_lv, NE_mb_tb, D_lv_tb, D_lv_mb, FL.mut HB (fun k hk => by rcases hk with h | h; exact .inr (.inl h); exact .inr (.inr (.inl h))), M_tb, M_mb, M_lv⟩
      have hB1 : B ≤ w14.heap.size := Nat.le_trans hB HB.size; have hN1 : ∀ k, N k → k < w14.heap.size := fun k hk => Nat.lt_of_lt_of_le (hN k hk) HB.size
      refine Kw.WL_callc rfl rfl rfl rfl F.cl27 rfl (sink_c B N tb _ _ hB1 hN1 R2 rfl W.tick) ?_; rintro w9 ⟨R3, hm⟩
      replace HB := (HB.mono (fun k hk => by rcases hk with h | h; rw [h]; exact M_tb; rw [h]; exact M_mb)).then_ hm (fun k hk => .inl hk)
      clear A_tb A_mb O_lv R2 hm
      refine Kw.WL_sub (l' := [(32, .int .i64 61)]) (Kw.Sub.cons rfl Kw.Sub.nil) ?_
      refine Kw.WL_v rfl rfl rfl (Kw.R_assign rfl) ?_
      refine Kw.WL_nil ?_
      refine hK15 _ _ ?_; clear hK15 K15
      refine Kw.WC_ret ?_
      refine Kw.QR_block ?_
      refine Kw.QR_then ?_; clear hK3 K3
      have hr : createD ⟨Fl, Q, cap, false, starts, true, left, keep⟩ n = (61, sinkD (tickD ⟨Fl, Q, cap, false, starts, true, left, keep⟩)) := by simp [createD, orSink, tickB, hlt]
      rw [hr]
      exact Kw.post_ret1 rfl rfl ⟨rfl, R3, HB⟩
    ·
      have hsk := sinks_yes tb mb lv cap false starts left keep w A_tb hl; rw [decide_eq_false hlt] at hsk
      refine Kw.WL_callc rfl rfl rfl rfl F.cl26 rfl hsk ?_; rintro w16 ⟨B_tb, hm⟩; clear hsk
      replace A_mb := A_mb.mut hm (NE_mb_tb)
      replace O_lv := O_lv.mut hm (fun g hg e => D_lv_tb (by rw [hg, e]))
      clear A_tb; have A_tb := B_tb; clear B_tb; replace HB := HB.then_ hm (fun k hk => .inl (.inl hk)); clear hm
      refine Kw.WL_v rfl rfl rfl (Kw.R_assign rfl) ?_
      refine Kw.WL_nil ?_
      refine hK9 _ _ ?_; clear hK9 K9
      refine Kw.WC_false rfl ?_
      refine Kw.WC_skip ?_
      refine Kw.QN_block ?_
      refine hK3 _ _ ?_; clear hK3 K3
      refine Kw.WC_seq (fun K17 hK17 => ?_)
      refine Kw.WC_region [some 33, some 34, some 35, some 36, some 37, some 38, none] rfl ?_
      refine Kw.WL_v rfl rfl rfl (Kw.R_move rfl) ?_
      refine Kw.WL_v rfl rfl rfl (Kw.R_nilok rfl) ?_
      refine Kw.WL_v rfl rfl rfl (Kw.R_fieldAddr (o' := 0) (k := 0) rfl Try.underlying52 rfl F.sz49 rfl) ?_
      refine Kw.WL_v rfl rfl rfl (Kw.R_load1 (v := .map (some mb)) rfl Try.underlying49 rfl A_tb rfl) ?_
      refine Kw.WL_v rfl rfl rfl (Kw.R_move rfl) ?_
      obtain ⟨gf, w18, N_gf⟩ : ∃ b_ w2_, Kw.Newb w16 b_ #[] 5 w2_ := ⟨_, _, rfl, rfl⟩
      refine Kw.WL_v rfl rfl rfl (Kw.R_buildSlice rfl (fun w => by kernel_rfl) N_gf) ?_
      have L_mb_gf : mb < gf := (by rw [N_gf.num]; exact A_mb.lt); replace A_mb := A_mb.new N_gf
      have L_tb_gf := N_gf.ne A_tb; replace A_tb := N_gf.keep A_tb
      have A_gf : Kw.At w18 gf #[] 5 := N_gf.at_
      have D_lv_gf := O_lv.ne_new N_gf; replace O_lv := O_lv.new N_gf
      have G_gf := HB.ge N_gf; replace HB := HB.new N_gf; clear N_gf
      refine Kw.WL_mapUpdate (a := n) (u := (.slice (some ⟨gf, 0, none⟩) 0 0)) KI3 rfl rfl rfl rfl Try.underlying49 A_mb hn ?_; intro w19 C_mb B_mb; clear A_mb; have A_mb := B_mb; clear B_mb
      replace A_tb := A_tb.chg C_mb (Ne.symm NE_mb_tb)
      replace A_gf := A_gf.chg C_mb (Nat.ne_of_gt L_mb_gf)
      replace O_lv := C_mb.keepO O_lv D_lv_mb
      replace HB := HB.chg C_mb (.inl (.inr rfl))
      clear C_mb
      refine Kw.WL_nil ?_
      refine hK17 _ _ ?_; clear hK17 K17
      refine Kw.WC_sub (l' := []) Kw.Sub.nil ?_
      refine Kw.WC_seq (fun K20 hK20 => ?_)
      refine Kw.WC_region [some 4] rfl ?_
      refine Kw.WL_v rfl rfl rfl (Kw.R_assign rfl) ?_
      refine Kw.WL_nil ?_
      refine hK20 _ _ ?_; clear hK20 K20
      refine Kw.WC_ret ?_
      have hr : createD ⟨Fl, Q, cap, false, starts, true, left, keep⟩ n = (0, ⟨Fl ++ [(n, [])], Q, cap, false, starts, true, left - 1, keep⟩) := by simp [createD, orSink, tickB, tickD, show ¬ left - 1 < 0 from hlt]
      rw [hr]
      rw [tset_fT (s := [])] at A_mb
      have hq : ∀ g, Kw.ob (.slice (some ⟨gf, 0, none⟩) 0 0) = some g → ¬ (N g ∨ g = tb ∨ g = mb ∨ Kw.ob lv = some g) := fun g hg hk => by
        obtain rfl : gf = g := Option.some.inj hg
        rcases hk with h | h | h | h
        · exact absurd (hN _ h) (by omega)
        · exact absurd h (by omega)
        · exact absurd h (by omega)
        · exact D_lv_gf h
      have hFL := FL.set hnd (n := n) (v := (.slice (some ⟨gf, 0, none⟩) 0 0)) (s := []) ⟨by simp [byV], .inr ⟨gf, 0, #[], rfl, Nat.le_trans hB G_gf, A_gf, Nat.le_refl _, by unfold maxLen; omega, rfl, rfl⟩⟩ hq HB (fun e he _ g hg => ⟨fun hk => (FL.1 e he).2 g hg (by rcases hk with h | h; exact .inr (.inl h); exact .inr (.inr (.inl h))), fun hb => by
        obtain rfl : gf = g := Option.some.inj hb
        exact absurd ((FL.1 e he).1.lt hg) (by omega)⟩)
      exact Kw.post_ret1 rfl rfl ⟨rfl, ⟨mb, lv, Kw.tset E n ((.slice (some ⟨gf, 0, none⟩) 0 0), []), create_hE hE hgE _, A_tb, A_mb, O_lv, NE_mb_tb, D_lv_tb, D_lv_mb, hFL, M_tb, M_mb, M_lv⟩, HB.mono (fun k hk => by rcases hk with h | h; rw [h]; exact M_tb; rw [h]; exact M_mb)⟩

set_option maxRecDepth 100000 in
set_option maxHeartbeats 4000000 in
theorem free_c (B : Nat) (N : Nat → Prop) (tb : Nat) (d : Dk) (w : World) (hB : B ≤ w.heap.size) (hN : ∀ k, N k → k < w.heap.size) (R : DK w B N tb d) (hd : d.down = false) (W : WF d) (hc : 0 ≤ d.cap ∧ d.cap ≤ 1048576) : Calls Try.prog 23 #[.pointer (some ⟨tb, 0, none⟩)] w fun e w' => e = .returned (.int .i64 (freeD d)) ∧ Kw.Mut (fun _ => False) w w' := by
  have R0 := R
  obtain ⟨Fl, Q, cap, down, starts, fails, left, keep⟩ := d
  dsimp only at hd
  subst hd
  obtain ⟨mb, lv, E, hE, A_tb0, A_mb, O_lv, NE_mb_tb, D_lv_tb, D_lv_mb, FL, M_tb, M_mb, M_lv⟩ := R
  have A_tb : Kw.At w tb #[.map (some mb), lv, .int .i64 cap, .bool false, .int .i64 starts, .bool fails, .int .i64 left, .int .i64 keep] 52 := A_tb0
  clear A_tb0
  replace hE : fD E = Fl := hE
  replace O_lv : Kw.Own w B 56 2 lv Q.length (flatQ Q) := O_lv
  have hnd : (E.map (·.1)).Nodup := by have := A_mb.nodup KI3; rwa [fT_fst] at this
  dsimp only at hc
  have HB : Kw.Mut (fun _ => False) w w := Kw.Mut.refl _ _
  refine Kw.enter Try.func23 rfl Try.ntmps23 rfl rfl ?_
  refine Kw.WC_seq (fun K1 hK1 => ?_)
  refine Kw.WC_region [some 2] rfl ?_
  refine Kw.WL_v rfl rfl rfl (Kw.R_assign rfl) ?_
  refine Kw.WL_nil ?_
  refine hK1 _ _ ?_; clear hK1 K1
  refine Kw.WC_seq (fun K2 hK2 => ?_)
  refine Kw.WC_seq (fun K3 hK3 => ?_)
  refine Kw.WC_region [some 6, some 7] rfl ?_
  refine Kw.WL_v rfl rfl rfl (Kw.R_move rfl) ?_
  refine Kw.WL_callc rfl rfl rfl rfl F.cl29 rfl (none_no tb mb lv cap false starts fails left keep _ A_tb) ?_; intro ww hww; rw [hww]; clear hww ww
  refine Kw.WL_nil ?_
  refine hK3 _ _ ?_; clear hK3 K3
  refine Kw.WC_false rfl ?_
  refine Kw.WC_skip ?_
  refine hK2 _ _ ?_; clear hK2 K2
  refine Kw.WC_seq (fun K4 hK4 => ?_)
  refine Kw.WC_region [some 8, some 9, some 10, some 11, some 3] rfl ?_
  refine Kw.WL_v rfl rfl rfl (Kw.R_move rfl) ?_
  refine Kw.WL_v rfl rfl rfl (Kw.R_nilok rfl) ?_
  refine Kw.WL_v rfl rfl rfl (Kw.R_fieldAddr (o' := 2) (k := 0) rfl Try.underlying52 rfl F.sz3 rfl) ?_
  refine Kw.WL_v rfl rfl rfl (Kw.R_load1 (v := .int .i64 cap) rfl Try.underlying3 rfl A_tb rfl) ?_
  refine Kw.WL_v rfl rfl rfl (Kw.R_assign rfl) ?_
  refine Kw.WL_nil ?_
  refine hK4 _ _ ?_; clear hK4 K4
  refine Kw.WC_sub (l' := [(0, .pointer (some ⟨tb, 0, none⟩)), (3, .int .i64 cap)]) (Kw.Sub.cons rfl (Kw.Sub.cons rfl Kw.Sub.nil)) ?_
  refine Kw.WC_seq (fun K5 hK5 => ?_)
  refine Kw.WC_seq (fun K6 hK6 => ?_)
  refine Kw.WC_region [some 12, some 13, some 14, some 15, some 16] rfl ?_
  refine Kw.WL_v rfl rfl rfl (Kw.R_move rfl) ?_
  refine Kw.WL_v rfl rfl rfl (Kw.R_nilok rfl) ?_
  refine Kw.WL_v rfl rfl rfl (Kw.R_fieldAddr (o' := 0) (k := 0) rfl Try.underlying52 rfl F.sz49 rfl) ?_
  refine Kw.WL_v rfl rfl rfl (Kw.R_load1 (v := .map (some mb)) rfl Try.underlying49 rfl A_tb rfl) ?_
  refine Kw.WL_range rfl rfl rfl Try.underlying49 A_mb ?_; intro r w7 er bw7 A_r
  have L_mb_r : mb < r := (by rw [← er]; exact A_mb.lt); replace A_mb := A_mb.call bw7
  have L_tb_r : tb < r := (by rw [← er]; exact A_tb.lt); replace A_tb := A_tb.call bw7
  have D_lv_r : Kw.ob lv ≠ some r := fun e => absurd (O_lv.lt e) (by omega); replace O_lv := O_lv.call bw7
  have G_r : w.heap.size ≤ r := (by rw [← er]; exact HB.size)
  replace HB := HB.call bw7
  clear bw7 er
  refine Kw.WL_nil ?_
  refine hK6 _ _ ?_; clear hK6 K6
  refine Kw.WC_block ?_
  refine Kw.WC_loop (ι := List (Int × Value) × Int) (fun (q : List (Int × Value) × Int) (ww : World) => match q with | ⟨V, fr⟩ => (fr = cap - (sumV V : Int) ∧ V.Nodup) ∧ FM ww mb (fT E) ∧ Kw.At ww tb #[.map (some mb), lv, .int .i64 cap, .bool false, .int .i64 starts, .bool fails, .int .i64 left, .int .i64 keep] 52 ∧ ItF ww r mb (fT E) V ∧ Kw.Own ww B 56 2 lv Q.length (flatQ Q) ∧ Kw.Mut (fun _ => False) w ww) (fun (q : List (Int × Value) × Int) => match q with | ⟨V, fr⟩ => [(3, .int .i64 fr), (16, .pointer (some ⟨r, 0, none⟩))]) (fun (q : List (Int × Value) × Int) => match q with | ⟨V, fr⟩ => (fT E).length - V.length) ([], cap) ⟨⟨by show cap = cap - 0; omega, List.nodup_nil⟩, A_mb, A_tb, A_r, O_lv, HB⟩ (Kw.Sub.cons rfl (Kw.Sub.cons rfl Kw.Sub.nil)) ?_
  clear A_mb
  clear A_tb
  clear A_r
  clear O_lv
  clear HB
  rintro ⟨V, fr⟩ w8 ⟨⟨hfr, hVd⟩, A_mb, A_tb, A_r, O_lv, HB⟩
  dsimp only at *
  refine Kw.WC_seq (fun K9 hK9 => ?_)
  refine Kw.WC_region [some 17, some 18] rfl ?_
  refine Kw.WL_next KI3 vV_inj rfl rfl rfl A_r (fun hP => ?_) (fun p w10 hpT hpV C_r I_r hen => ?_)
  ·
    refine Kw.WL_v rfl rfl rfl (Kw.R_extract (v := .bool false) rfl rfl) ?_
    refine Kw.WL_nil ?_
    refine hK9 _ _ ?_; clear hK9 K9
    refine Kw.WC_seq (fun K11 hK11 => ?_)
    refine Kw.WC_false rfl ?_
    refine Kw.WC_exit ?_
    refine Kw.QE_then ?_; clear hK11 K11
    refine Kw.QE_then ?_
    refine Kw.QE_here ?_
    refine hK5 _ _ ?_; clear hK5 K5
    refine Kw.WC_seq (fun K12 hK12 => ?_)
    refine Kw.WC_region [some 25, some 2] rfl ?_
    refine Kw.WL_v rfl rfl rfl (Kw.R_move rfl) ?_
    refine Kw.WL_v rfl rfl rfl (Kw.R_assign rfl) ?_
    refine Kw.WL_nil ?_
    refine hK12 _ _ ?_; clear hK12 K12
    refine Kw.WC_ret ?_
    have hsm2 := sumV_perm hP; rw [FL.sum, hE] at hsm2
    have hff : fr = freeD ⟨Fl, Q, cap, false, starts, fails, left, keep⟩ := by unfold freeD; dsimp only; omega
    rw [← hff]
    exact Kw.post_ret1 rfl rfl ⟨rfl, HB⟩
  ·
    replace A_mb := A_mb.chg C_r (Nat.ne_of_lt L_mb_r)
    replace A_tb := A_tb.chg C_r (Nat.ne_of_lt L_tb_r)
    replace O_lv := C_r.keepO O_lv D_lv_r
    replace HB := HB.chg C_r (.inr G_r)
    clear A_r; have A_r := I_r; clear I_r C_r
    have hlen := A_r.len; rw [List.length_append] at hlen; have hlen1 : ([p] : List (Int × Value)).length = 1 := rfl
    refine Kw.WL_v rfl rfl rfl (Kw.R_extract (v := .bool true) rfl rfl) ?_
    refine Kw.WL_nil ?_
    refine hK9 _ _ ?_; clear hK9 K9
    refine Kw.WC_seq (fun K13 hK13 => ?_)
    refine Kw.WC_true rfl ?_
    refine Kw.WC_skip ?_
    refine hK13 _ _ ?_; clear hK13 K13
    refine Kw.WC_block ?_
    refine Kw.WC_seq (fun K14 hK14 => ?_)
    refine Kw.WC_region [some 19, some 20, some 5] rfl ?_
    refine Kw.WL_v rfl rfl rfl (Kw.R_entry (v := .tuple #[.int .i64 p.1, p.2]) rfl hen) ?_
    refine Kw.WL_v rfl rfl rfl (Kw.R_extract (v := p.2) rfl rfl) ?_
    refine Kw.WL_v rfl rfl rfl (Kw.R_assign rfl) ?_
    refine Kw.WL_nil ?_
    refine hK14 _ _ ?_; clear hK14 K14
    refine Kw.WC_region [some 21, some 22, some 23, some 24, some 3] rfl ?_
    refine Kw.WL_v rfl rfl rfl (Kw.R_move rfl) ?_
    refine Kw.WL_v rfl rfl rfl (Kw.R_move rfl) ?_
    have hnd2 : (V ++ [p]).Nodup := by rw [List.nodup_append]; exact ⟨hVd, by simp, fun a ha b hb e => hpV (by rw [← List.mem_singleton.1 hb, ← e]; exact ha)⟩
    have hsb := sumV_sub hnd2 (iterF_sub A_r); have hsm := FL.sum; rw [hE] at hsm; have hlf := W.lenF; dsimp only at hlf
    rw [sumV_app, show sumV [p] = lenV p.2 from rfl] at hsb
    obtain ⟨av, cv, hv⟩ := FL.lenV hpT
    refine Kw.WL_v rfl rfl rfl (Kw.R_lenl (ad := av) (n := lenV p.2) (c := cv) Try.underlying54 (congrArg some hv)) ?_
    refine Kw.WL_v rfl rfl rfl (Kw.R_sub (c := (fr - (lenV p.2 : Int))) rfl rfl (Kw.wrap_i64 (by omega))) ?_
    refine Kw.WL_v rfl rfl rfl (Kw.R_assign rfl) ?_
    refine Kw.WL_nil ?_
    refine Kw.QN_block ?_
    refine Kw.QN_round ((V ++ [p], fr - (lenV p.2 : Int))) ⟨⟨by rw [sumV_app, show sumV [p] = lenV p.2 from rfl]; omega, hnd2⟩, A_mb, A_tb, A_r, O_lv, HB⟩ (by dsimp only; rw [List.length_append]; omega) (Kw.Sub.cons rfl (Kw.Sub.cons rfl Kw.Sub.nil))

set_option maxRecDepth 100000 in
set_option maxHeartbeats 4000000 in
theorem loose_c (B : Nat) (N : Nat → Prop) (tb : Nat) (d : Dk) (w : World) (hB : B ≤ w.heap.size) (hN : ∀ k, N k → k < w.heap.size) (R : DK w B N tb d) (hd : d.down = false) (W : WF d) : Calls Try.prog 14 #[.pointer (some ⟨tb, 0, none⟩)] w fun e w' => e = .returned (.int .i64 (looseAll d.Q : Int)) ∧ Kw.Mut (fun _ => False) w w' := by
  have R0 := R
  obtain ⟨Fl, Q, cap, down, starts, fails, left, keep⟩ := d
  dsimp only at hd
  subst hd
  obtain ⟨mb, lv, E, hE, A_tb0, A_mb, O_lv, NE_mb_tb, D_lv_tb, D_lv_mb, FL, M_tb, M_mb, M_lv⟩ := R
  have A_tb : Kw.At w tb #[.map (some mb), lv, .int .i64 cap, .bool false, .int .i64 starts, .bool fails, .int .i64 left, .int .i64 keep] 52 := A_tb0
  clear A_tb0
  replace hE : fD E = Fl := hE
  replace O_lv : Kw.Own w B 56 2 lv Q.length (flatQ Q) := O_lv
  have hnd : (E.map (·.1)).Nodup := by have := A_mb.nodup KI3; rwa [fT_fst] at this
  have HB : Kw.Mut (fun _ => False) w w := Kw.Mut.refl _ _
  refine Kw.enter Try.func14 rfl Try.ntmps14 rfl rfl ?_
  refine Kw.WC_seq (fun K1 hK1 => ?_)
  refine Kw.WC_region [some 2] rfl ?_
  refine Kw.WL_v rfl rfl rfl (Kw.R_assign rfl) ?_
  refine Kw.WL_nil ?_
  refine hK1 _ _ ?_; clear hK1 K1
  refine Kw.WC_seq (fun K2 hK2 => ?_)
  refine Kw.WC_seq (fun K3 hK3 => ?_)
  refine Kw.WC_region [some 6, some 7] rfl ?_
  refine Kw.WL_v rfl rfl rfl (Kw.R_move rfl) ?_
  refine Kw.WL_callc rfl rfl rfl rfl F.cl29 rfl (none_no tb mb lv cap false starts fails left keep _ A_tb) ?_; intro ww hww; rw [hww]; clear hww ww
  refine Kw.WL_nil ?_
  refine hK3 _ _ ?_; clear hK3 K3
  refine Kw.WC_false rfl ?_
  refine Kw.WC_skip ?_
  refine hK2 _ _ ?_; clear hK2 K2
  refine Kw.WC_seq (fun K4 hK4 => ?_)
  refine Kw.WC_region [some 3] rfl ?_
  refine Kw.WL_v rfl rfl rfl (Kw.R_assign rfl) ?_
  refine Kw.WL_nil ?_
  refine hK4 _ _ ?_; clear hK4 K4
  refine Kw.WC_seq (fun K5 hK5 => ?_)
  refine Kw.WC_seq (fun K6 hK6 => ?_)
  refine Kw.WC_region [some 8, some 9, some 10, some 11, some 12, some 13] rfl ?_
  refine Kw.WL_v rfl rfl rfl (Kw.R_move rfl) ?_
  refine Kw.WL_v rfl rfl rfl (Kw.R_nilok rfl) ?_
  refine Kw.WL_v rfl rfl rfl (Kw.R_fieldAddr (o' := 1) (k := 0) rfl Try.underlying52 rfl F.sz50 rfl) ?_
  refine Kw.WL_v rfl rfl rfl (Kw.R_load1 (v := lv) rfl Try.underlying50 rfl A_tb rfl) ?_
  refine Kw.WL_v rfl rfl rfl (Kw.R_leno Try.underlying50 rfl O_lv) ?_
  refine Kw.WL_v rfl rfl rfl (Kw.R_move rfl) ?_
  refine Kw.WL_nil ?_
  refine hK6 _ _ ?_; clear hK6 K6
  refine Kw.WC_sub (l' := [(3, .int .i64 0), (11, lv), (12, .int .i64 ((Q.length : Nat) : Int)), (13, .int .i64 0)]) (Kw.Sub.cons rfl (Kw.Sub.cons rfl (Kw.Sub.cons rfl (Kw.Sub.cons rfl Kw.Sub.nil)))) ?_
  refine Kw.WC_block ?_
  refine Kw.WC_loop (ι := Nat) (fun (i : Nat) (ww : World) => (i ≤ Q.length) ∧ FM ww mb (fT E) ∧ Kw.At ww tb #[.map (some mb), lv, .int .i64 cap, .bool false, .int .i64 starts, .bool fails, .int .i64 left, .int .i64 keep] 52 ∧ Kw.Own ww B 56 2 lv Q.length (flatQ Q) ∧ Kw.Mut (fun _ => False) w ww) (fun (i : Nat) => [(3, .int .i64 (looseAll (Q.take i) : Int)), (11, lv), (12, .int .i64 ((Q.length : Nat) : Int)), (13, .int .i64 (i : Int))]) (fun (i : Nat) => Q.length - i) 0 ⟨Nat.zero_le _, A_mb, A_tb, O_lv, HB⟩ (Kw.Sub.cons rfl (Kw.Sub.cons rfl (Kw.Sub.cons rfl (Kw.Sub.cons rfl Kw.Sub.nil)))) ?_
  clear A_mb
  clear A_tb
  clear O_lv
  clear HB
  rintro i w7 ⟨hi, A_mb, A_tb, O_lv, HB⟩
  refine Kw.WC_seq (fun K8 hK8 => ?_)
  refine Kw.WC_region [some 14] rfl ?_
  by_cases c9 : ((i : Int) : Int) < ((Q.length : Nat) : Int)
  ·
    refine Kw.WL_v rfl rfl rfl (Kw.R_lss (z := true) rfl rfl (decide_eq_true c9)) ?_
    refine Kw.WL_nil ?_
    refine hK8 _ _ ?_; clear hK8 K8
    refine Kw.WC_seq (fun K10 hK10 => ?_)
    refine Kw.WC_true rfl ?_
    refine Kw.WC_skip ?_
    refine hK10 _ _ ?_; clear hK10 K10
    refine Kw.WC_seq (fun K11 hK11 => ?_)
    refine Kw.WC_block ?_
    refine Kw.WC_seq (fun K12 hK12 => ?_)
    refine Kw.WC_region [some 15, some 16, some 5, none] rfl ?_
    have hi2 : i < Q.length := by omega
    obtain ⟨p, hp⟩ : ∃ p, p = Q[i]'hi2 := ⟨_, rfl⟩
    obtain ⟨gl, capl, curl, rfl, hBl, A_gl, hcl, hsl, htl⟩ := O_lv.open (by omega)
    obtain ⟨hz1, hz2⟩ := rdQ_at htl hi2
    rw [← hp] at hz2
    refine Kw.WL_v rfl rfl rfl (Kw.R_indexAddrS (i := i) (b := gl) (o := 0) (o' := i * 2) rfl rfl Try.underlying50 F.sz56 (by omega) (by omega)) ?_
    refine Kw.WL_v rfl rfl rfl (Kw.R_loadN (ds := #[.int .i64 p.1, .int .i64 (p.2 : Int)]) rfl Try.underlying56 rfl F.sz56 A_gl (by omega) hz2) ?_
    clear A_gl
    refine Kw.WL_alloc rfl rfl F.zr56 ?_; intro gp w13 N_gp
    have L_mb_gp : mb < gp := (by rw [N_gp.num]; exact A_mb.lt); replace A_mb := A_mb.new N_gp
    have L_tb_gp := N_gp.ne A_tb; replace A_tb := N_gp.keep A_tb
    have A_gp : Kw.At w13 gp F.Z56 56 := N_gp.at_
    have D_lv_gp := O_lv.ne_new N_gp; replace O_lv := O_lv.new N_gp
    have G_gp := HB.ge N_gp; replace HB := HB.new N_gp; clear N_gp
    refine Kw.WL_storeW rfl rfl rfl (by exact F.sz56) A_gp rfl rfl ?_; intro w14 M_gp
    replace A_mb := A_mb.chg M_gp.chg (Nat.ne_of_lt L_mb_gp)
    replace A_tb := M_gp.keep A_tb (Nat.ne_of_lt L_tb_gp)
    replace A_gp : Kw.At w14 gp #[.int .i64 p.1, .int .i64 (p.2 : Int)] 56 := M_gp.at_ A_gp
    replace O_lv := O_lv.wrote M_gp D_lv_gp
    replace HB := HB.chg M_gp.chg (.inr G_gp); clear M_gp
    refine Kw.WL_nil ?_
    refine hK12 _ _ ?_; clear hK12 K12
    refine Kw.WC_region [some 17, some 18, some 19, some 20, some 3] rfl ?_
    refine Kw.WL_v rfl rfl rfl (Kw.R_move rfl) ?_
    refine Kw.WL_v rfl rfl rfl (Kw.R_fieldAddr (o' := 1) (k := 0) rfl Try.underlying56 rfl F.sz3 rfl) ?_
    refine Kw.WL_v rfl rfl rfl (Kw.R_load1 (v := .int .i64 (p.2 : Int)) rfl Try.underlying3 rfl A_gp rfl) ?_
    have hb6 := looseAll_get hi2; have hb7 := W.allQ; have hlq := W.lenQ; rw [← hp] at hb6; dsimp only at hb7 hlq
    refine Kw.WL_v rfl rfl rfl (Kw.R_add (c := ((looseAll (Q.take i) + p.2 : Nat) : Int)) rfl rfl (by rw [Kw.wrap_i64 (by omega)]; omega)) ?_
    refine Kw.WL_v rfl rfl rfl (Kw.R_assign rfl) ?_
    refine Kw.WL_nil ?_
    refine Kw.QN_block ?_
    refine hK11 _ _ ?_; clear hK11 K11
    refine Kw.WC_sub (l' := [(3, .int .i64 ((looseAll (Q.take i) + p.2 : Nat) : Int)), (11, .slice (some ⟨gl, 0, none⟩) Q.length capl), (12, .int .i64 ((Q.length : Nat) : Int)), (13, .int .i64 (i : Int))]) (Kw.Sub.cons rfl (Kw.Sub.cons rfl (Kw.Sub.cons rfl (Kw.Sub.cons rfl Kw.Sub.nil)))) ?_
    refine Kw.WC_region [some 21, some 13] rfl ?_
    refine Kw.WL_v rfl rfl rfl (Kw.R_add (c := ((i + 1 : Nat) : Int)) rfl rfl (by rw [Kw.wrap_i64 (by omega)]; omega)) ?_
    refine Kw.WL_v rfl rfl rfl (Kw.R_move rfl) ?_
    refine Kw.WL_nil ?_
    refine Kw.QN_round (i + 1) ⟨by omega, A_mb, A_tb, O_lv, HB⟩ (by omega) (by rw [looseAll_next hi2, ← hp]; exact (Kw.Sub.cons rfl (Kw.Sub.cons rfl (Kw.Sub.cons rfl (Kw.Sub.cons rfl Kw.Sub.nil)))))
  ·
    refine Kw.WL_v rfl rfl rfl (Kw.R_lss (z := false) rfl rfl (decide_eq_false c9)) ?_
    refine Kw.WL_nil ?_
    refine hK8 _ _ ?_; clear hK8 K8
    refine Kw.WC_seq (fun K15 hK15 => ?_)
    refine Kw.WC_false rfl ?_
    refine Kw.WC_exit ?_
    refine Kw.QE_then ?_; clear hK15 K15
    refine Kw.QE_then ?_
    refine Kw.QE_here ?_
    refine hK5 _ _ ?_; clear hK5 K5
    refine Kw.WC_seq (fun K16 hK16 => ?_)
    refine Kw.WC_region [some 22, some 2] rfl ?_
    refine Kw.WL_v rfl rfl rfl (Kw.R_move rfl) ?_
    refine Kw.WL_v rfl rfl rfl (Kw.R_assign rfl) ?_
    refine Kw.WL_nil ?_
    refine hK16 _ _ ?_; clear hK16 K16
    refine Kw.WC_sub (l' := [(2, .int .i64 (looseAll (Q.take i) : Int))]) (Kw.Sub.cons rfl Kw.Sub.nil) ?_
    refine Kw.WC_ret ?_
    have hil : i = Q.length := by omega
    rw [hil, List.take_length]
    exact Kw.post_ret1 rfl rfl ⟨rfl, HB⟩

set_option maxRecDepth 100000 in
set_option maxHeartbeats 4000000 in
theorem start_c (B : Nat) (N : Nat → Prop) (tb : Nat) (d : Dk) (w : World) (hB : B ≤ w.heap.size) (hN : ∀ k, N k → k < w.heap.size) (R : DK w B N tb d) (hd : d.down = true) (hs : 0 ≤ d.starts ∧ d.starts ≤ 1000000000) : Calls Try.prog 13 #[.pointer (some ⟨tb, 0, none⟩)] w fun e w' => e = .returned (.int .i64 0) ∧ DK w' B N tb (startD d) ∧ Kw.Mut (Mine B N) w w' := by
  have R0 := R
  obtain ⟨Fl, Q, cap, down, starts, fails, left, keep⟩ := d
  dsimp only at hd
  subst hd
  obtain ⟨mb, lv, E, hE, A_tb0, A_mb, O_lv, NE_mb_tb, D_lv_tb, D_lv_mb, FL, M_tb, M_mb, M_lv⟩ := R
  have A_tb : Kw.At w tb #[.map (some mb), lv, .int .i64 cap, .bool true, .int .i64 starts, .bool fails, .int .i64 left, .int .i64 keep] 52 := A_tb0
  clear A_tb0
  replace hE : fD E = Fl := hE
  replace O_lv : Kw.Own w B 56 2 lv Q.length (flatQ Q) := O_lv
  have hnd : (E.map (·.1)).Nodup := by have := A_mb.nodup KI3; rwa [fT_fst] at this
  dsimp only at hs
  have HB : Kw.Mut (fun k => k = tb ∨ k = mb) w w := Kw.Mut.refl _ _
  refine Kw.enter Try.func13 rfl Try.ntmps13 rfl rfl ?_
  refine Kw.WC_seq (fun K1 hK1 => ?_)
  refine Kw.WC_region [some 2] rfl ?_
  refine Kw.WL_v rfl rfl rfl (Kw.R_assign rfl) ?_
  refine Kw.WL_nil ?_
  refine hK1 _ _ ?_; clear hK1 K1
  refine Kw.WC_seq (fun K2 hK2 => ?_)
  refine Kw.WC_block ?_
  refine Kw.WC_seq (fun K3 hK3 => ?_)
  refine Kw.WC_region [some 4, some 5, some 3] rfl ?_
  refine Kw.WL_v rfl rfl rfl (Kw.R_move rfl) ?_
  refine Kw.WL_callc rfl rfl rfl rfl F.cl29 rfl (none_no tb mb lv cap true starts fails left keep _ A_tb) ?_; intro ww hww; rw [hww]; clear hww ww
  refine Kw.WL_v rfl rfl rfl (Kw.R_assign rfl) ?_
  refine Kw.WL_nil ?_
  refine hK3 _ _ ?_; clear hK3 K3
  refine Kw.WC_false rfl ?_
  refine Kw.WC_seq (fun K4 hK4 => ?_)
  refine Kw.WC_region [some 7, some 8, some 9, some 10, some 11, some 6] rfl ?_
  refine Kw.WL_v rfl rfl rfl (Kw.R_move rfl) ?_
  refine Kw.WL_v rfl rfl rfl (Kw.R_nilok rfl) ?_
  refine Kw.WL_v rfl rfl rfl (Kw.R_fieldAddr (o' := 3) (k := 0) rfl Try.underlying52 rfl F.sz4 rfl) ?_
  refine Kw.WL_v rfl rfl rfl (Kw.R_load1 (v := .bool true) rfl Try.underlying4 rfl A_tb rfl) ?_
  refine Kw.WL_v rfl rfl rfl (Kw.R_not rfl rfl) ?_
  refine Kw.WL_v rfl rfl rfl (Kw.R_assign rfl) ?_
  refine Kw.WL_nil ?_
  refine hK4 _ _ ?_; clear hK4 K4
  refine Kw.WC_sub (l' := [(0, .pointer (some ⟨tb, 0, none⟩)), (6, .bool false)]) (Kw.Sub.cons rfl (Kw.Sub.cons rfl Kw.Sub.nil)) ?_
  refine Kw.WC_false rfl ?_
  refine Kw.WC_skip ?_
  refine Kw.QN_block ?_
  refine hK2 _ _ ?_; clear hK2 K2
  refine Kw.WC_seq (fun K5 hK5 => ?_)
  refine Kw.WC_region [some 12, some 13, some 14, none] rfl ?_
  refine Kw.WL_v rfl rfl rfl (Kw.R_move rfl) ?_
  refine Kw.WL_v rfl rfl rfl (Kw.R_nilok rfl) ?_
  refine Kw.WL_v rfl rfl rfl (Kw.R_fieldAddr (o' := 3) (k := 0) rfl Try.underlying52 rfl F.sz4 rfl) ?_
  refine Kw.WL_store1 (ds := #[.map (some mb), lv, .int .i64 cap, .bool false, .int .i64 starts, .bool fails, .int .i64 left, .int .i64 keep]) rfl rfl rfl F.sz4 A_tb (by show 3 < 8; decide) rfl rfl (rfl) ?_; intro w6 M_tb
  replace A_mb := A_mb.chg M_tb.chg NE_mb_tb
  replace A_tb : Kw.At w6 tb #[.map (some mb), lv, .int .i64 cap, .bool false, .int .i64 starts, .bool fails, .int .i64 left, .int .i64 keep] 52 := M_tb.at_ A_tb
  replace O_lv := O_lv.wrote M_tb D_lv_tb
  replace HB := HB.chg M_tb.chg (.inl (.inl rfl)); clear M_tb
  refine Kw.WL_nil ?_
  refine hK5 _ _ ?_; clear hK5 K5
  refine Kw.WC_seq (fun K7 hK7 => ?_)
  refine Kw.WC_region [some 15, some 16, some 17, some 18, some 19, some 20, some 21, none] rfl ?_
  refine Kw.WL_v rfl rfl rfl (Kw.R_move rfl) ?_
  refine Kw.WL_v rfl rfl rfl (Kw.R_nilok rfl) ?_
  refine Kw.WL_v rfl rfl rfl (Kw.R_fieldAddr (o' := 4) (k := 0) rfl Try.underlying52 rfl F.sz3 rfl) ?_
  refine Kw.WL_v rfl rfl rfl (Kw.R_load1 (v := .int .i64 starts) rfl Try.underlying3 rfl A_tb rfl) ?_
  refine Kw.WL_v rfl rfl rfl (Kw.R_add (c := (starts + 1)) rfl rfl (Kw.wrap_i64 (by omega))) ?_
  refine Kw.WL_v rfl rfl rfl (Kw.R_nilok rfl) ?_
  refine Kw.WL_v rfl rfl rfl (Kw.R_fieldAddr (o' := 4) (k := 0) rfl Try.underlying52 rfl F.sz3 rfl) ?_
  refine Kw.WL_store1 (ds := #[.map (some mb), lv, .int .i64 cap, .bool false, .int .i64 (starts + 1), .bool fails, .int .i64 left, .int .i64 keep]) rfl rfl rfl F.sz3 A_tb (by show 4 < 8; decide) rfl rfl (rfl) ?_; intro w8 M_tb
  replace A_mb := A_mb.chg M_tb.chg NE_mb_tb
  replace A_tb : Kw.At w8 tb #[.map (some mb), lv, .int .i64 cap, .bool false, .int .i64 (starts + 1), .bool fails, .int .i64 left, .int .i64 keep] 52 := M_tb.at_ A_tb
  replace O_lv := O_lv.wrote M_tb D_lv_tb
  replace HB := HB.chg M_tb.chg (.inl (.inl rfl)); clear M_tb
  refine Kw.WL_nil ?_
  refine hK7 _ _ ?_; clear hK7 K7
  refine Kw.WC_sub (l' := []) Kw.Sub.nil ?_
  refine Kw.WC_seq (fun K9 hK9 => ?_)
  refine Kw.WC_region [some 2] rfl ?_
  refine Kw.WL_v rfl rfl rfl (Kw.R_assign rfl) ?_
  refine Kw.WL_nil ?_
  refine hK9 _ _ ?_; clear hK9 K9
  refine Kw.WC_ret ?_
  have R2 : DK w8 B N tb ⟨Fl, Q, cap, false, (starts + 1), fails, left, keep⟩ := ⟨mb, lv, E, hE, A_tb, A_mb, O_lv, NE_mb_tb, D_lv_tb, D_lv_mb, FL.mut HB (fun k hk => by rcases hk with h | h; exact .inr (.inl h); exact .inr (.inr (.inl h))), M_tb, M_mb, M_lv⟩
  exact Kw.post_ret1 rfl rfl ⟨rfl, R2, HB.mono (fun k hk => by rcases hk with h | h; rw [h]; exact M_tb; rw [h]; exact M_mb)⟩

set_option maxRecDepth 100000 in
set_option maxHeartbeats 4000000 in
theorem fail_c (B : Nat) (N : Nat → Prop) (tb : Nat) (d : Dk) (w : World) (hB : B ≤ w.heap.size) (hN : ∀ k, N k → k < w.heap.size) (R : DK w B N tb d) (hd : d.down = false) (n m : Int) (h0 : 0 ≤ n) : Calls Try.prog 16 #[.pointer (some ⟨tb, 0, none⟩), .int .i64 n, .int .i64 m] w fun e w' => e = .returned (.int .i64 0) ∧ DK w' B N tb (failD d n m) ∧ Kw.Mut (Mine B N) w w' := by
  have R0 := R
  obtain ⟨Fl, Q, cap, down, starts, fails, left, keep⟩ := d
  dsimp only at hd
  subst hd
  obtain ⟨mb, lv, E, hE, A_tb0, A_mb, O_lv, NE_mb_tb, D_lv_tb, D_lv_mb, FL, M_tb, M_mb, M_lv⟩ := R
  have A_tb : Kw.At w tb #[.map (some mb), lv, .int .i64 cap, .bool false, .int .i64 starts, .bool fails, .int .i64 left, .int .i64 keep] 52 := A_tb0
  clear A_tb0
  replace hE : fD E = Fl := hE
  replace O_lv : Kw.Own w B 56 2 lv Q.length (flatQ Q) := O_lv
  have hnd : (E.map (·.1)).Nodup := by have := A_mb.nodup KI3; rwa [fT_fst] at this
  have HB : Kw.Mut (fun k => k = tb ∨ k = mb) w w := Kw.Mut.refl _ _
  refine Kw.enter Try.func16 rfl Try.ntmps16 rfl rfl ?_
  refine Kw.WC_seq (fun K1 hK1 => ?_)
  refine Kw.WC_region [some 6] rfl ?_
  refine Kw.WL_v rfl rfl rfl (Kw.R_assign rfl) ?_
  refine Kw.WL_nil ?_
  refine hK1 _ _ ?_; clear hK1 K1
  refine Kw.WC_seq (fun K2 hK2 => ?_)
  refine Kw.WC_region [some 8, some 9, some 7] rfl ?_
  refine Kw.WL_v rfl rfl rfl (Kw.R_move rfl) ?_
  refine Kw.WL_callc rfl rfl rfl rfl F.cl28 rfl (ready_up tb mb lv cap starts fails left keep _ A_tb) ?_; intro ww hww; rw [hww]; clear hww ww
  refine Kw.WL_v rfl rfl rfl (Kw.R_assign rfl) ?_
  refine Kw.WL_nil ?_
  refine hK2 _ _ ?_; clear hK2 K2
  refine Kw.WC_seq (fun K3 hK3 => ?_)
  refine Kw.WC_block ?_
  refine Kw.WC_seq (fun K4 hK4 => ?_)
  refine Kw.WC_region [some 11, some 12, some 10] rfl ?_
  refine Kw.WL_v rfl rfl rfl (Kw.R_move rfl) ?_
  refine Kw.WL_v rfl rfl rfl (Kw.R_nei (z := false) rfl rfl (decide_eq_true (by omega))) ?_
  refine Kw.WL_v rfl rfl rfl (Kw.R_assign rfl) ?_
  refine Kw.WL_nil ?_
  refine hK4 _ _ ?_; clear hK4 K4
  refine Kw.WC_false rfl ?_
  refine Kw.WC_seq (fun K5 hK5 => ?_)
  refine Kw.WC_region [some 15, some 16, some 14] rfl ?_
  refine Kw.WL_v rfl rfl rfl (Kw.R_move rfl) ?_
  refine Kw.WL_v rfl rfl rfl (Kw.R_lss (z := false) rfl rfl (decide_eq_false (by omega))) ?_
  refine Kw.WL_v rfl rfl rfl (Kw.R_assign rfl) ?_
  refine Kw.WL_nil ?_
  refine hK5 _ _ ?_; clear hK5 K5
  refine Kw.WC_sub (l' := [(0, .pointer (some ⟨tb, 0, none⟩)), (1, .int .i64 n), (2, .int .i64 m), (14, .bool false)]) (Kw.Sub.cons rfl (Kw.Sub.cons rfl (Kw.Sub.cons rfl (Kw.Sub.cons rfl Kw.Sub.nil)))) ?_
  refine Kw.WC_false rfl ?_
  refine Kw.WC_skip ?_
  refine Kw.QN_block ?_
  refine hK3 _ _ ?_; clear hK3 K3
  refine Kw.WC_seq (fun K6 hK6 => ?_)
  refine Kw.WC_region [some 17, some 18, some 19, some 20, some 21, some 22, some 23, none, some 24, some 25, none, some 26, some 27, none] rfl ?_
  refine Kw.WL_v rfl rfl rfl (Kw.R_move rfl) ?_
  refine Kw.WL_v rfl rfl rfl (Kw.R_move rfl) ?_
  refine Kw.WL_v rfl rfl rfl (Kw.R_move rfl) ?_
  refine Kw.WL_v rfl rfl rfl (Kw.R_move rfl) ?_
  refine Kw.WL_v rfl rfl rfl (Kw.R_move rfl) ?_
  refine Kw.WL_v rfl rfl rfl (Kw.R_nilok rfl) ?_
  refine Kw.WL_v rfl rfl rfl (Kw.R_fieldAddr (o' := 5) (k := 0) rfl Try.underlying52 rfl F.sz4 rfl) ?_
  refine Kw.WL_store1 (ds := #[.map (some mb), lv, .int .i64 cap, .bool false, .int .i64 starts, .bool true, .int .i64 left, .int .i64 keep]) rfl rfl rfl F.sz4 A_tb (by show 5 < 8; decide) rfl rfl (rfl) ?_; intro w7 M_tb
  replace A_mb := A_mb.chg M_tb.chg NE_mb_tb
  replace A_tb : Kw.At w7 tb #[.map (some mb), lv, .int .i64 cap, .bool false, .int .i64 starts, .bool true, .int .i64 left, .int .i64 keep] 52 := M_tb.at_ A_tb
  replace O_lv := O_lv.wrote M_tb D_lv_tb
  replace HB := HB.chg M_tb.chg (.inl (.inl rfl)); clear M_tb
  refine Kw.WL_v rfl rfl rfl (Kw.R_nilok rfl) ?_
  refine Kw.WL_v rfl rfl rfl (Kw.R_fieldAddr (o' := 6) (k := 0) rfl Try.underlying52 rfl F.sz3 rfl) ?_
  refine Kw.WL_store1 (ds := #[.map (some mb), lv, .int .i64 cap, .bool false, .int .i64 starts, .bool true, .int .i64 n, .int .i64 keep]) rfl rfl rfl F.sz3 A_tb (by show 6 < 8; decide) rfl rfl (rfl) ?_; intro w8 M_tb
  replace A_mb := A_mb.chg M_tb.chg NE_mb_tb
  replace A_tb : Kw.At w8 tb #[.map (some mb), lv, .int .i64 cap, .bool false, .int .i64 starts, .bool true, .int .i64 n, .int .i64 keep] 52 := M_tb.at_ A_tb
  replace O_lv := O_lv.wrote M_tb D_lv_tb
  replace HB := HB.chg M_tb.chg (.inl (.inl rfl)); clear M_tb
  refine Kw.WL_v rfl rfl rfl (Kw.R_nilok rfl) ?_
  refine Kw.WL_v rfl rfl rfl (Kw.R_fieldAddr (o' := 7) (k := 0) rfl Try.underlying52 rfl F.sz3 rfl) ?_
  refine Kw.WL_store1 (ds := #[.map (some mb), lv, .int .i64 cap, .bool false, .int .i64 starts, .bool true, .int .i64 n, .int .i64 m]) rfl rfl rfl F.sz3 A_tb (by show 7 < 8; decide) rfl rfl (rfl) ?_; intro w9 M_tb
  replace A_mb := A_mb.chg M_tb.chg NE_mb_tb
  replace A_tb : Kw.At w9 tb #[.map (some mb), lv, .int .i64 cap, .bool false, .int .i64 starts, .bool true, .int .i64 n, .int .i64 m] 52 := M_tb.at_ A_tb
  replace O_lv := O_lv.wrote M_tb D_lv_tb
  replace HB := HB.chg M_tb.chg (.inl (.inl rfl)); clear M_tb
  refine Kw.WL_nil ?_
  refine hK6 _ _ ?_; clear hK6 K6
  refine Kw.WC_sub (l' := []) Kw.Sub.nil ?_
  refine Kw.WC_seq (fun K10 hK10 => ?_)
  refine Kw.WC_region [some 6] rfl ?_
  refine Kw.WL_v rfl rfl rfl (Kw.R_assign rfl) ?_
  refine Kw.WL_nil ?_
  refine hK10 _ _ ?_; clear hK10 K10
  refine Kw.WC_ret ?_
  have R2 : DK w9 B N tb ⟨Fl, Q, cap, false, starts, true, n, m⟩ := ⟨mb, lv, E, hE, A_tb, A_mb, O_lv, NE_mb_tb, D_lv_tb, D_lv_mb, FL.mut HB (fun k hk => by rcases hk with h | h; exact .inr (.inl h); exact .inr (.inr (.inl h))), M_tb, M_mb, M_lv⟩
  exact Kw.post_ret1 rfl rfl ⟨rfl, R2, HB.mono (fun k hk => by rcases hk with h | h; rw [h]; exact M_tb; rw [h]; exact M_mb)⟩
end Go.Proofs.Ytcmgeadakncgmaa.Fn
