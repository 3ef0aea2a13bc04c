/- Crash of a disk. -/
import Derived.Test.YtcmgeadakncgmaaDm1
namespace Go.Proofs.Ytcmgeadakncgmaa.Fn
open Go Go.Proofs Go.RowKit
set_option linter.unusedVariables false
set_option linter.unusedSimpArgs false
theorem rdQ_at {cur : Array Value} {Q : List (Int × Nat)} {i : Nat} (hc : cur.toList.take (Q.length * 2) = flatQ Q) (h : i < Q.length) : i * 2 + 2 ≤ cur.size ∧ cur.extract (i * 2) (i * 2 + 2) = #[.int .i64 (Q[i]'h).1, .int .i64 ((Q[i]'h).2 : Int)] := by
  have hg := flatQ_get Q i h
  rw [← hc, List.getElem?_take, List.getElem?_take, if_pos (by omega), if_pos (by omega), Array.getElem?_toList, Array.getElem?_toList] at hg
  obtain ⟨h0, h1⟩ := hg
  have hs := (Array.getElem?_eq_some_iff.1 h1).1
  refine ⟨by omega, ?_⟩
  apply Array.toList_inj.1
  apply List.ext_getElem?
  intro j
  rw [Array.toList_extract, List.extract_eq_take_drop, List.getElem?_take, List.getElem?_drop, Array.getElem?_toList]
  match j with
  | 0 => rw [if_pos (by omega), Nat.add_zero, h0]; rfl
  | 1 => rw [if_pos (by omega), h1]; rfl
  | j + 2 => rw [if_neg (by omega)]; rfl
theorem Files.cut {w : World} {B : Nat} {q : Nat → Prop} {E : List File} (h : Files w B q E) (hnd : (E.map (·.1)).Nodup) {n m : Int} {v : Value} {s : List UInt8} (hg : Kw.tget E n = some (v, s)) :
    Files w B q (Kw.tset E n (cutV v (s.length - m.toNat), cutL s m)) := by
  obtain ⟨ho, hq⟩ := h.get hg
  have hl : (cutL s m).length = s.length - m.toNat := by unfold cutL; rw [List.length_take]; omega
  refine h.set hnd (n := n) (v := cutV v (s.length - m.toNat)) (s := cutL s m) ?_ (fun g hg' => hq g (by rw [← hg', cutV_ob])) (Kw.Mut.refl (fun _ => False) w) (fun e he hne g hg' => ⟨id, fun hb => ?_⟩)
  · rw [hl, show byV (cutL s m) = (byV s).take (s.length - m.toNat) from byV_take s _]
    exact cutV_own ho (Nat.sub_le _ _)
  · rw [cutV_ob] at hb
    exact h.2 e he _ (Kw.tget_mem hg) hne g hg' hb
theorem crash_get {F : List (Int × List UInt8)} {Q : List (Int × Nat)} {cap : Int} {down : Bool} {starts : Int} {fails : Bool} {left kp keep : Int} (W : WF ⟨F, Q, cap, down, starts, fails, left, kp⟩) {E E2 : List File} (hE : fD E = F) (hnd : (E.map (·.1)).Nodup) {V : List (Int × Int)} {p : Int × Int}
    (he : fD E2 = cutF (fD E) V) (hV : ∀ q ∈ V, q.1 ≠ p.1) (hn : ((goneOf Q keep).map (·.1)).Nodup) (hp : p ∈ goneOf Q keep) (h0 : p.2 ≠ 0) : ∃ v s, Kw.tget E2 p.1 = some (v, s) ∧ 0 < p.2 ∧ p.2 ≤ s.length := by
  have hb := goneOf_bnd Q keep p.1
  have hl : lookI (goneOf Q keep) p.1 = p.2 := by unfold lookI; rw [Kw.mem_tget hn hp]; rfl
  rw [hl] at hb
  have hpos : 0 < p.2 := by omega
  obtain ⟨s, hs, hle⟩ := looseOf_pos W hpos hb.2
  have hs' : Kw.tget F p.1 = some s := hs
  have h1 : Kw.tget (fD E2) p.1 = some (cutL s (lookI V p.1)) := by rw [he, tget_cutF, hE, hs']; rfl
  rw [lookI_none hV, cutL_zero, tget_fD] at h1
  cases h2 : Kw.tget E2 p.1 with
  | none => rw [h2] at h1; cases h1
  | some x =>
    rw [h2] at h1
    simp only [Option.map_some, Option.some.injEq] at h1
    exact ⟨x.1, x.2, rfl, hpos, by rw [h1]; exact hle⟩
theorem iter_ne {w : World} {r b : Nat} {G V : List (Int × Int)} (h : ItG w r b G V) (hn : (G.map (·.1)).Nodup) {p : Int × Int} (hp : p ∈ G) (hV : p ∉ V) : ∀ q ∈ V, q.1 ≠ p.1 := fun q hq e => by
  obtain ⟨_, _, _, _, _, _, _, _, _, _, _, _, _, _, _, _, _, _, hs⟩ := h
  have h1 := Kw.mem_tget hn (show (q.1, q.2) ∈ G from hs q hq)
  have h2 := Kw.mem_tget hn (show (p.1, p.2) ∈ G from hp)
  rw [e, h2] at h1
  exact hV (by rw [show p = q from Prod.ext e.symm (Option.some.inj h1)]; exact hq)
theorem lookI_perm {G V : List (Int × Int)} (hn : (G.map (·.1)).Nodup) (h : V.Perm G) (n : Int) : lookI V n = lookI G n := by
  unfold lookI; rw [tget_perm hn h.symm]

set_option maxRecDepth 100000 in
set_option maxHeartbeats 4000000 in
theorem sinks_no (tb mb : Nat) (lv : Value) (cap : Int) (down : Bool) (starts : Int) (left keep : Int) (w : World) (A_tb : Kw.At w tb #[.map (some mb), lv, .int .i64 cap, .bool down, .int .i64 starts, .bool false, .int .i64 left, .int .i64 keep] 52) : Calls Try.prog 26 #[.pointer (some ⟨tb, 0, none⟩)] w fun e w' => e = .returned (.bool false) ∧ w' = w := by
  have HB : w = w := rfl
  refine Kw.enter Try.func26 rfl Try.ntmps26 rfl rfl ?_
  refine Kw.WC_seq (fun K1 hK1 => ?_)
  refine Kw.WC_region [some 2] rfl ?_
  refine Kw.WL_v rfl rfl rfl (Kw.R_assign rfl) ?_
  refine Kw.WL_nil ?_
  refine hK1 _ _ ?_; clear hK1 K1
  refine Kw.WC_seq (fun K2 hK2 => ?_)
  refine Kw.WC_seq (fun K3 hK3 => ?_)
  refine Kw.WC_region [some 3, some 4, some 5, some 6, some 7] rfl ?_
  refine Kw.WL_v rfl rfl rfl (Kw.R_move rfl) ?_
  refine Kw.WL_v rfl rfl rfl (Kw.R_nilok rfl) ?_
  refine Kw.WL_v rfl rfl rfl (Kw.R_fieldAddr (o' := 5) (k := 0) rfl Try.underlying52 rfl F.sz4 rfl) ?_
  refine Kw.WL_v rfl rfl rfl (Kw.R_load1 (v := .bool false) rfl Try.underlying4 rfl A_tb rfl) ?_
  refine Kw.WL_v rfl rfl rfl (Kw.R_not rfl rfl) ?_
  refine Kw.WL_nil ?_
  refine hK3 _ _ ?_; clear hK3 K3
  refine Kw.WC_true rfl ?_
  refine Kw.WC_seq (fun K4 hK4 => ?_)
  refine Kw.WC_region [some 2] rfl ?_
  refine Kw.WL_v rfl rfl rfl (Kw.R_assign rfl) ?_
  refine Kw.WL_nil ?_
  refine hK4 _ _ ?_; clear hK4 K4
  refine Kw.WC_sub (l' := [(2, .bool false)]) (Kw.Sub.cons rfl Kw.Sub.nil) ?_
  refine Kw.WC_ret ?_
  refine Kw.QR_then ?_; clear hK2 K2
  exact Kw.post_ret1 rfl rfl ⟨rfl, rfl⟩
set_option maxRecDepth 100000 in
set_option maxHeartbeats 4000000 in
theorem sinks_yes (tb mb : Nat) (lv : Value) (cap : Int) (down : Bool) (starts : Int) (left keep : Int) (w : World) (A_tb : Kw.At w tb #[.map (some mb), lv, .int .i64 cap, .bool down, .int .i64 starts, .bool true, .int .i64 left, .int .i64 keep] 52) (hl : -1000000000 ≤ left ∧ left ≤ 1000000000) : Calls Try.prog 26 #[.pointer (some ⟨tb, 0, none⟩)] w fun e w' => e = .returned (.bool (decide (left - 1 < 0))) ∧ Kw.At w' tb #[.map (some mb), lv, .int .i64 cap, .bool down, .int .i64 starts, .bool true, .int .i64 (left - 1), .int .i64 keep] 52 ∧ Kw.Mut (fun k => k = tb) w w' := by
  have HB : Kw.Mut (fun k => k = tb) w w := Kw.Mut.refl _ _
  refine Kw.enter Try.func26 rfl Try.ntmps26 rfl rfl ?_
  refine Kw.WC_seq (fun K1 hK1 => ?_)
  refine Kw.WC_region [some 2] rfl ?_
  refine Kw.WL_v rfl rfl rfl (Kw.R_assign rfl) ?_
  refine Kw.WL_nil ?_
  refine hK1 _ _ ?_; clear hK1 K1
  refine Kw.WC_seq (fun K2 hK2 => ?_)
  refine Kw.WC_seq (fun K3 hK3 => ?_)
  refine Kw.WC_region [some 3, some 4, some 5, some 6, some 7] rfl ?_
  refine Kw.WL_v rfl rfl rfl (Kw.R_move rfl) ?_
  refine Kw.WL_v rfl rfl rfl (Kw.R_nilok rfl) ?_
  refine Kw.WL_v rfl rfl rfl (Kw.R_fieldAddr (o' := 5) (k := 0) rfl Try.underlying52 rfl F.sz4 rfl) ?_
  refine Kw.WL_v rfl rfl rfl (Kw.R_load1 (v := .bool true) rfl Try.underlying4 rfl A_tb rfl) ?_
  refine Kw.WL_v rfl rfl rfl (Kw.R_not rfl rfl) ?_
  refine Kw.WL_nil ?_
  refine hK3 _ _ ?_; clear hK3 K3
  refine Kw.WC_false rfl ?_
  refine Kw.WC_skip ?_
  refine hK2 _ _ ?_; clear hK2 K2
  refine Kw.WC_sub (l' := [(0, .pointer (some ⟨tb, 0, none⟩))]) (Kw.Sub.cons rfl Kw.Sub.nil) ?_
  refine Kw.WC_seq (fun K4 hK4 => ?_)
  refine Kw.WC_region [some 8, some 9, some 10, some 11, some 12, some 13, some 14, none] rfl ?_
  refine Kw.WL_v rfl rfl rfl (Kw.R_move rfl) ?_
  refine Kw.WL_v rfl rfl rfl (Kw.R_nilok rfl) ?_
  refine Kw.WL_v rfl rfl rfl (Kw.R_fieldAddr (o' := 6) (k := 0) rfl Try.underlying52 rfl F.sz3 rfl) ?_
  refine Kw.WL_v rfl rfl rfl (Kw.R_load1 (v := .int .i64 left) rfl Try.underlying3 rfl A_tb rfl) ?_
  refine Kw.WL_v rfl rfl rfl (Kw.R_sub (c := (left - 1)) rfl rfl (Kw.wrap_i64 (by omega))) ?_
  refine Kw.WL_v rfl rfl rfl (Kw.R_nilok rfl) ?_
  refine Kw.WL_v rfl rfl rfl (Kw.R_fieldAddr (o' := 6) (k := 0) rfl Try.underlying52 rfl F.sz3 rfl) ?_
  refine Kw.WL_store1 (ds := #[.map (some mb), lv, .int .i64 cap, .bool down, .int .i64 starts, .bool true, .int .i64 (left - 1), .int .i64 keep]) rfl rfl rfl F.sz3 A_tb (by show 6 < 8; decide) rfl rfl (rfl) ?_; intro w5 M_tb
  replace A_tb : Kw.At w5 tb #[.map (some mb), lv, .int .i64 cap, .bool down, .int .i64 starts, .bool true, .int .i64 (left - 1), .int .i64 keep] 52 := M_tb.at_ A_tb
  replace HB := HB.chg M_tb.chg (.inl rfl); clear M_tb
  refine Kw.WL_nil ?_
  refine hK4 _ _ ?_; clear hK4 K4
  refine Kw.WC_sub (l' := [(0, .pointer (some ⟨tb, 0, none⟩))]) (Kw.Sub.cons rfl Kw.Sub.nil) ?_
  refine Kw.WC_seq (fun K6 hK6 => ?_)
  refine Kw.WC_region [some 15, some 16, some 17, some 18, some 19, some 2] rfl ?_
  refine Kw.WL_v rfl rfl rfl (Kw.R_move rfl) ?_
  refine Kw.WL_v rfl rfl rfl (Kw.R_nilok rfl) ?_
  refine Kw.WL_v rfl rfl rfl (Kw.R_fieldAddr (o' := 6) (k := 0) rfl Try.underlying52 rfl F.sz3 rfl) ?_
  refine Kw.WL_v rfl rfl rfl (Kw.R_load1 (v := .int .i64 (left - 1)) rfl Try.underlying3 rfl A_tb rfl) ?_
  obtain ⟨z, hz⟩ : ∃ z : Bool, decide (((left - 1) : Int) < 0) = z := ⟨_, rfl⟩
  refine Kw.WL_v rfl rfl rfl (Kw.R_lss rfl rfl hz) ?_
  refine Kw.WL_v rfl rfl rfl (Kw.R_assign rfl) ?_
  refine Kw.WL_nil ?_
  refine hK6 _ _ ?_; clear hK6 K6
  refine Kw.WC_sub (l' := [(2, .bool z)]) (Kw.Sub.cons rfl Kw.Sub.nil) ?_
  refine Kw.WC_ret ?_
  exact Kw.post_ret1 rfl rfl ⟨by rw [hz], A_tb, HB⟩

set_option maxRecDepth 100000 in
set_option maxHeartbeats 4000000 in
theorem crash_c (B : Nat) (N : Nat → Prop) (tb : Nat) (d : Dk) (W : WF d) (hd : d.down = false) (w : World) (hB : B ≤ w.heap.size) (hN : ∀ k, N k → k < w.heap.size) (R : DK w B N tb d) (kq : Int) (hk : okI kq) : Calls Try.prog 11 #[.pointer (some ⟨tb, 0, none⟩), .int .i64 kq] w fun e w' => e = .returned (.int .i64 0) ∧ DK w' B N tb (crashD d kq) ∧ Kw.Mut (Mine B N) w w' := by
  obtain ⟨Fl, Q, cap, down, starts, fails, left, keep⟩ := d
  dsimp only at hd
  subst hd
  obtain ⟨mb, lv, E, hE, A_tb0, A_mb, O_lv, NE_mb_tb, D_lv_tb, D_lv_mb, FL, M_tb, M_mb, M_lv⟩ := R
  have A_tb : Kw.At w tb #[.map (some mb), lv, .int .i64 cap, .bool false, .int .i64 starts, .bool fails, .int .i64 left, .int .i64 keep] 52 := A_tb0
  clear A_tb0
  replace hE : fD E = Fl := hE
  replace O_lv : Kw.Own w B 56 2 lv Q.length (flatQ Q) := O_lv
  have hnd : (E.map (·.1)).Nodup := by have := A_mb.nodup KI3; rwa [fT_fst] at this
  unfold okI at hk
  have HB : Kw.Mut (fun k => k = tb ∨ k = mb) w w := Kw.Mut.refl _ _
  refine Kw.enter Try.func11 rfl Try.ntmps11 rfl rfl ?_
  refine Kw.WC_seq (fun K1 hK1 => ?_)
  refine Kw.WC_region [some 4] rfl ?_
  refine Kw.WL_v rfl rfl rfl (Kw.R_assign rfl) ?_
  refine Kw.WL_nil ?_
  refine hK1 _ _ ?_; clear hK1 K1
  refine Kw.WC_seq (fun K2 hK2 => ?_)
  refine Kw.WC_seq (fun K3 hK3 => ?_)
  refine Kw.WC_region [some 13, some 14, some 5] rfl ?_
  refine Kw.WL_v rfl rfl rfl (Kw.R_move rfl) ?_
  refine Kw.WL_callc rfl rfl rfl rfl F.cl28 rfl (ready_up tb mb lv cap starts fails left keep _ A_tb) ?_; intro ww hww; rw [hww]; clear hww ww
  refine Kw.WL_v rfl rfl rfl (Kw.R_assign rfl) ?_
  refine Kw.WL_nil ?_
  refine hK3 _ _ ?_; clear hK3 K3
  refine Kw.WC_seq (fun K4 hK4 => ?_)
  refine Kw.WC_region [some 15, some 16] rfl ?_
  refine Kw.WL_v rfl rfl rfl (Kw.R_move rfl) ?_
  refine Kw.WL_v rfl rfl rfl (Kw.R_nei (z := false) rfl rfl (decide_eq_true (by omega))) ?_
  refine Kw.WL_nil ?_
  refine hK4 _ _ ?_; clear hK4 K4
  refine Kw.WC_false rfl ?_
  refine Kw.WC_skip ?_
  refine hK2 _ _ ?_; clear hK2 K2
  refine Kw.WC_sub (l' := [(0, .pointer (some ⟨tb, 0, none⟩)), (1, .int .i64 kq)]) (Kw.Sub.cons rfl (Kw.Sub.cons rfl Kw.Sub.nil)) ?_
  refine Kw.WC_seq (fun K5 hK5 => ?_)
  refine Kw.WC_region [some 18, some 6] rfl ?_
  refine Kw.WL_makeMap rfl rfl ?_; intro gm w6 N_gm
  have L_mb_gm : mb < gm := (by rw [N_gm.num]; exact A_mb.lt); replace A_mb := A_mb.newo N_gm
  have L_tb_gm := N_gm.ne A_tb; replace A_tb := N_gm.keep A_tb
  have A_gm : GM w6 gm [] := Kw.TMap.empty N_gm
  have D_lv_gm := N_gm.neO O_lv; replace O_lv := N_gm.keepO O_lv
  have G_gm := HB.geo N_gm; replace HB := HB.newo N_gm; clear N_gm
  refine Kw.WL_v rfl rfl rfl (Kw.R_assign rfl) ?_
  refine Kw.WL_nil ?_
  refine hK5 _ _ ?_; clear hK5 K5
  refine Kw.WC_seq (fun K7 hK7 => ?_)
  refine Kw.WC_seq (fun K8 hK8 => ?_)
  refine Kw.WC_region [some 19, some 20, some 21, some 22, some 23, some 24] rfl ?_
  refine Kw.WL_v rfl rfl rfl (Kw.R_move rfl) ?_
  refine Kw.WL_v rfl rfl rfl (Kw.R_nilok rfl) ?_
  refine Kw.WL_v rfl rfl rfl (Kw.R_fieldAddr (o' := 1) (k := 0) rfl Try.underlying52 rfl F.sz50 rfl) ?_
  refine Kw.WL_v rfl rfl rfl (Kw.R_load1 (v := lv) rfl Try.underlying50 rfl A_tb rfl) ?_
  refine Kw.WL_v rfl rfl rfl (Kw.R_leno Try.underlying50 rfl O_lv) ?_
  refine Kw.WL_v rfl rfl rfl (Kw.R_move rfl) ?_
  refine Kw.WL_nil ?_
  refine hK8 _ _ ?_; clear hK8 K8
  refine Kw.WC_block ?_
  refine Kw.WC_loop (ι := Nat × Int × List (Int × Int)) (fun (q : Nat × Int × List (Int × Int)) (ww : World) => match q with | ⟨i, kk, G⟩ => (i ≤ Q.length ∧ (kk, G) = goneSt (Q.take i) kq) ∧ FM ww mb (fT E) ∧ Kw.At ww tb #[.map (some mb), lv, .int .i64 cap, .bool false, .int .i64 starts, .bool fails, .int .i64 left, .int .i64 keep] 52 ∧ GM ww gm G ∧ Kw.Own ww B 56 2 lv Q.length (flatQ Q) ∧ Kw.Mut (fun k => k = tb ∨ k = mb) w ww) (fun (q : Nat × Int × List (Int × Int)) => match q with | ⟨i, kk, G⟩ => [(0, .pointer (some ⟨tb, 0, none⟩)), (1, .int .i64 kk), (6, .map (some gm)), (22, lv), (23, .int .i64 ((Q.length : Nat) : Int)), (24, .int .i64 (i : Int))]) (fun (q : Nat × Int × List (Int × Int)) => match q with | ⟨i, kk, G⟩ => Q.length - i) (0, kq, []) ⟨⟨Nat.zero_le _, rfl⟩, A_mb, A_tb, A_gm, O_lv, HB⟩ (Kw.Sub.cons rfl (Kw.Sub.cons rfl (Kw.Sub.cons rfl (Kw.Sub.cons rfl (Kw.Sub.cons rfl (Kw.Sub.cons rfl Kw.Sub.nil)))))) ?_
  clear A_mb
  clear A_tb
  clear A_gm
  clear O_lv
  clear HB
  rintro ⟨i, kk, G⟩ w9 ⟨⟨hi, hG⟩, A_mb, A_tb, A_gm, O_lv, HB⟩
  dsimp only at *
  obtain ⟨⟨b1, b2⟩, b3⟩ := gone_bnd Q kq i hi
  rw [← hG] at b1 b2 b3; dsimp only at b1 b2 b3
  refine Kw.WC_seq (fun K10 hK10 => ?_)
  refine Kw.WC_region [some 25] rfl ?_
  by_cases c11 : ((i : Int) : Int) < ((Q.length : Nat) : Int)
  ·
    refine Kw.WL_v rfl rfl rfl (Kw.R_lss (z := true) rfl rfl (decide_eq_true c11)) ?_
    refine Kw.WL_nil ?_
    refine hK10 _ _ ?_; clear hK10 K10
    refine Kw.WC_seq (fun K12 hK12 => ?_)
    refine Kw.WC_true rfl ?_
    refine Kw.WC_skip ?_
    refine hK12 _ _ ?_; clear hK12 K12
    refine Kw.WC_seq (fun K13 hK13 => ?_)
    refine Kw.WC_block ?_
    refine Kw.WC_seq (fun K14 hK14 => ?_)
    refine Kw.WC_region [some 26, some 27, some 8, none] rfl ?_
    have hi2 : i < Q.length := by omega
    obtain ⟨p, hp⟩ : ∃ p, p = Q[i]'hi2 := ⟨_, rfl⟩
    obtain ⟨gl, capl, curl, rfl, hBl, A_gl, hcl, hsl, htl⟩ := O_lv.open (by omega)
    obtain ⟨hz1, hz2⟩ := rdQ_at htl hi2
    rw [← hp] at hz2
    refine Kw.WL_v rfl rfl rfl (Kw.R_indexAddrS (i := i) (b := gl) (o := 0) (o' := i * 2) rfl rfl Try.underlying50 F.sz56 (by omega) (by omega)) ?_
    refine Kw.WL_v rfl rfl rfl (Kw.R_loadN (ds := #[.int .i64 p.1, .int .i64 (p.2 : Int)]) rfl Try.underlying56 rfl F.sz56 A_gl (by omega) hz2) ?_
    clear A_gl
    refine Kw.WL_alloc rfl rfl F.zr56 ?_; intro gp w15 N_gp
    have L_mb_gp : mb < gp := (by rw [N_gp.num]; exact A_mb.lt); replace A_mb := A_mb.new N_gp
    have L_tb_gp := N_gp.ne A_tb; replace A_tb := N_gp.keep A_tb
    have L_gm_gp : gm < gp := (by rw [N_gp.num]; exact A_gm.lt); replace A_gm := A_gm.new N_gp
    have A_gp : Kw.At w15 gp F.Z56 56 := N_gp.at_
    have D_lv_gp := O_lv.ne_new N_gp; replace O_lv := O_lv.new N_gp
    have G_gp := HB.ge N_gp; replace HB := HB.new N_gp; clear N_gp
    refine Kw.WL_storeW rfl rfl rfl (by exact F.sz56) A_gp rfl rfl ?_; intro w16 M_gp
    replace A_mb := A_mb.chg M_gp.chg (Nat.ne_of_lt L_mb_gp)
    replace A_tb := M_gp.keep A_tb (Nat.ne_of_lt L_tb_gp)
    replace A_gm := A_gm.chg M_gp.chg (Nat.ne_of_lt L_gm_gp)
    replace A_gp : Kw.At w16 gp #[.int .i64 p.1, .int .i64 (p.2 : Int)] 56 := M_gp.at_ A_gp
    replace O_lv := O_lv.wrote M_gp D_lv_gp
    replace HB := HB.chg M_gp.chg (.inr G_gp); clear M_gp
    refine Kw.WL_nil ?_
    refine hK14 _ _ ?_; clear hK14 K14
    refine Kw.WC_seq (fun K17 hK17 => ?_)
    refine Kw.WC_region [some 28, some 29, some 30, some 31, some 32, some 9] rfl ?_
    have hpk : okI p.1 := W.okQ p (by rw [hp]; exact List.getElem_mem hi2)
    have hb4 := b3 p.1; have hb5 := looseOf_le (Q.take i) p.1; have hb6 := looseAll_get hi2; have hb7 := W.allQ; rw [← hp] at hb6; dsimp only at hb7; have hlq := W.lenQ; dsimp only at hlq
    refine Kw.WL_v rfl rfl rfl (Kw.R_move rfl) ?_
    obtain ⟨mx, hmx⟩ : ∃ x : Int, max kk 0 = x := ⟨_, rfl⟩
    refine Kw.WL_v rfl rfl rfl (Kw.R_max rfl rfl hmx) ?_
    refine Kw.WL_v rfl rfl rfl (Kw.R_fieldAddr (o' := 1) (k := 0) rfl Try.underlying56 rfl F.sz3 rfl) ?_
    refine Kw.WL_v rfl rfl rfl (Kw.R_load1 (v := .int .i64 (p.2 : Int)) rfl Try.underlying3 rfl A_gp rfl) ?_
    obtain ⟨stay, hstay⟩ : ∃ x : Int, min mx (p.2 : Int) = x := ⟨_, rfl⟩
    refine Kw.WL_v rfl rfl rfl (Kw.R_min rfl rfl hstay) ?_
    refine Kw.WL_v rfl rfl rfl (Kw.R_assign rfl) ?_
    refine Kw.WL_nil ?_
    refine hK17 _ _ ?_; clear hK17 K17
    refine Kw.WC_sub (l' := [(0, .pointer (some ⟨tb, 0, none⟩)), (1, .int .i64 kk), (6, .map (some gm)), (22, .slice (some ⟨gl, 0, none⟩) Q.length capl), (23, .int .i64 ((Q.length : Nat) : Int)), (24, .int .i64 (i : Int)), (8, .pointer (some ⟨gp, 0, none⟩)), (9, .int .i64 stay)]) (Kw.Sub.cons rfl (Kw.Sub.cons rfl (Kw.Sub.cons rfl (Kw.Sub.cons rfl (Kw.Sub.cons rfl (Kw.Sub.cons rfl (Kw.Sub.cons rfl (Kw.Sub.cons rfl Kw.Sub.nil)))))))) ?_
    refine Kw.WC_seq (fun K18 hK18 => ?_)
    refine Kw.WC_region [some 33, some 34, some 35, some 1] rfl ?_
    refine Kw.WL_v rfl rfl rfl (Kw.R_move rfl) ?_
    refine Kw.WL_v rfl rfl rfl (Kw.R_move rfl) ?_
    refine Kw.WL_v rfl rfl rfl (Kw.R_sub (c := (kk - stay)) rfl rfl (Kw.wrap_i64 (by omega))) ?_
    refine Kw.WL_v rfl rfl rfl (Kw.R_assign rfl) ?_
    refine Kw.WL_nil ?_
    refine hK18 _ _ ?_; clear hK18 K18
    refine Kw.WC_region [some 36, some 37, some 38, some 39, some 40, some 41, some 42, some 43, some 44, none] rfl ?_
    refine Kw.WL_v rfl rfl rfl (Kw.R_move rfl) ?_
    refine Kw.WL_v rfl rfl rfl (Kw.R_fieldAddr (o' := 0) (k := 0) rfl Try.underlying56 rfl F.sz3 rfl) ?_
    refine Kw.WL_v rfl rfl rfl (Kw.R_load1 (v := .int .i64 p.1) rfl Try.underlying3 rfl A_gp rfl) ?_
    refine Kw.WL_v rfl rfl rfl (Kw.R_lookup (v := .int .i64 (lookI G p.1)) KI3 rfl rfl Try.underlying57 F.ze3 A_gm hpk (by have hl := lookI_eq G p.1; revert hl; cases Kw.tget G p.1 <;> exact id)) ?_
    refine Kw.WL_v rfl rfl rfl (Kw.R_fieldAddr (o' := 1) (k := 0) rfl Try.underlying56 rfl F.sz3 rfl) ?_
    refine Kw.WL_v rfl rfl rfl (Kw.R_load1 (v := .int .i64 (p.2 : Int)) rfl Try.underlying3 rfl A_gp rfl) ?_
    refine Kw.WL_v rfl rfl rfl (Kw.R_move rfl) ?_
    refine Kw.WL_v rfl rfl rfl (Kw.R_sub (c := ((p.2 : Int) - stay)) rfl rfl (Kw.wrap_i64 (by omega))) ?_
    refine Kw.WL_v rfl rfl rfl (Kw.R_add (c := (lookI G p.1 + ((p.2 : Int) - stay))) rfl rfl (Kw.wrap_i64 (by omega))) ?_
    refine Kw.WL_mapUpdate (a := p.1) (u := (lookI G p.1 + ((p.2 : Int) - stay))) KI3 rfl rfl rfl rfl Try.underlying57 A_gm hpk ?_; intro w19 C_gm B_gm; clear A_gm; have A_gm := B_gm; clear B_gm
    replace A_mb := A_mb.chg C_gm (Nat.ne_of_lt L_mb_gm)
    replace A_tb := A_tb.chg C_gm (Nat.ne_of_lt L_tb_gm)
    replace A_gp := A_gp.chg C_gm (Nat.ne_of_gt L_gm_gp)
    replace O_lv := C_gm.keepO O_lv D_lv_gm
    replace HB := HB.chg C_gm (.inr G_gm)
    clear C_gm
    refine Kw.WL_nil ?_
    refine Kw.QN_block ?_
    refine hK13 _ _ ?_; clear hK13 K13
    refine Kw.WC_sub (l' := [(0, .pointer (some ⟨tb, 0, none⟩)), (1, .int .i64 (kk - stay)), (6, .map (some gm)), (22, .slice (some ⟨gl, 0, none⟩) Q.length capl), (23, .int .i64 ((Q.length : Nat) : Int)), (24, .int .i64 (i : Int))]) (Kw.Sub.cons rfl (Kw.Sub.cons rfl (Kw.Sub.cons rfl (Kw.Sub.cons rfl (Kw.Sub.cons rfl (Kw.Sub.cons rfl Kw.Sub.nil)))))) ?_
    refine Kw.WC_region [some 45, some 24] rfl ?_
    refine Kw.WL_v rfl rfl rfl (Kw.R_add (c := ((i + 1 : Nat) : Int)) rfl rfl (by rw [Kw.wrap_i64 (by omega)]; omega)) ?_
    refine Kw.WL_v rfl rfl rfl (Kw.R_move rfl) ?_
    refine Kw.WL_nil ?_
    refine Kw.QN_round ((i + 1, kk - stay, Kw.tset G p.1 (lookI G p.1 + ((p.2 : Int) - stay)))) ⟨⟨by (try dsimp only); omega, by rw [take_snocQ hi2, ← hp, goneSt_snoc, ← hG, ← hstay, ← hmx]; rfl⟩, A_mb, A_tb, A_gm, O_lv, HB⟩ (by dsimp only; omega) (Kw.Sub.cons rfl (Kw.Sub.cons rfl (Kw.Sub.cons rfl (Kw.Sub.cons rfl (Kw.Sub.cons rfl (Kw.Sub.cons rfl Kw.Sub.nil))))))
  ·
    refine Kw.WL_v rfl rfl rfl (Kw.R_lss (z := false) rfl rfl (decide_eq_false c11)) ?_
    refine Kw.WL_nil ?_
    refine hK10 _ _ ?_; clear hK10 K10
    refine Kw.WC_seq (fun K20 hK20 => ?_)
    refine Kw.WC_false rfl ?_
    refine Kw.WC_exit ?_
    refine Kw.QE_then ?_; clear hK20 K20
    refine Kw.QE_then ?_
    refine Kw.QE_here ?_
    refine hK7 _ _ ?_; clear hK7 K7
    refine Kw.WC_seq (fun K21 hK21 => ?_)
    refine Kw.WC_seq (fun K22 hK22 => ?_)
    refine Kw.WC_region [some 46, some 47] rfl ?_
    refine Kw.WL_v rfl rfl rfl (Kw.R_move rfl) ?_
    refine Kw.WL_range rfl rfl rfl Try.underlying57 A_gm ?_; intro r w23 er bw23 A_r
    have L_mb_r : mb < r := (by rw [← er]; exact A_mb.lt); replace A_mb := A_mb.call bw23
    have L_tb_r : tb < r := (by rw [← er]; exact A_tb.lt); replace A_tb := A_tb.call bw23
    have L_gm_r : gm < r := (by rw [← er]; exact A_gm.lt); replace A_gm := A_gm.call bw23
    have D_lv_r : Kw.ob lv ≠ some r := fun e => absurd (O_lv.lt e) (by omega); replace O_lv := O_lv.call bw23
    have G_r : w.heap.size ≤ r := (by rw [← er]; exact HB.size)
    replace HB := HB.call bw23
    clear bw23 er
    refine Kw.WL_nil ?_
    refine hK22 _ _ ?_; clear hK22 K22
    refine Kw.WC_sub (l' := [(0, .pointer (some ⟨tb, 0, none⟩)), (47, .pointer (some ⟨r, 0, none⟩))]) (Kw.Sub.cons rfl (Kw.Sub.cons rfl Kw.Sub.nil)) ?_
    refine Kw.WC_block ?_
    have hG2 : G = goneOf Q kq := by
      have hil : i = Q.length := by omega
      rw [hil, List.take_length] at hG
      unfold goneOf; rw [← hG]
    have hGn := A_gm.nodup KI3
    refine Kw.WC_loop (ι := List (Int × Int) × List File) (fun (q : List (Int × Int) × List File) (ww : World) => match q with | ⟨V, E2⟩ => (fD E2 = cutF (fD E) V ∧ Files w B (fun k => N k ∨ k = tb ∨ k = mb ∨ Kw.ob lv = some k) E2) ∧ FM ww mb (fT E2) ∧ Kw.At ww tb #[.map (some mb), lv, .int .i64 cap, .bool false, .int .i64 starts, .bool fails, .int .i64 left, .int .i64 keep] 52 ∧ GM ww gm G ∧ ItG ww r gm G V ∧ Kw.Own ww B 56 2 lv Q.length (flatQ Q) ∧ Kw.Mut (fun k => k = tb ∨ k = mb) w ww) (fun (q : List (Int × Int) × List File) => match q with | ⟨V, E2⟩ => [(0, .pointer (some ⟨tb, 0, none⟩)), (47, .pointer (some ⟨r, 0, none⟩))]) (fun (q : List (Int × Int) × List File) => match q with | ⟨V, E2⟩ => G.length - V.length) ([], E) ⟨⟨(cutF_nil _).symm, FL⟩, A_mb, A_tb, A_gm, A_r, O_lv, HB⟩ (Kw.Sub.cons rfl (Kw.Sub.cons rfl Kw.Sub.nil)) ?_
    clear A_mb
    clear A_tb
    clear A_gm
    clear A_r
    clear O_lv
    clear HB
    rintro ⟨V, E2⟩ w24 ⟨⟨hC, FL2⟩, A_mb, A_tb, A_gm, A_r, O_lv, HB⟩
    dsimp only at *
    have I0 := A_r; have hnd2 : (E2.map (·.1)).Nodup := by have := A_mb.nodup KI3; rwa [fT_fst] at this
    refine Kw.WC_seq (fun K25 hK25 => ?_)
    refine Kw.WC_region [some 48, some 49] rfl ?_
    refine Kw.WL_next KI3 iV_inj rfl rfl rfl A_r (fun hP => ?_) (fun p w26 hpT hpV C_r I_r hen => ?_)
    ·
      refine Kw.WL_v rfl rfl rfl (Kw.R_extract (v := .bool false) rfl rfl) ?_
      refine Kw.WL_nil ?_
      refine hK25 _ _ ?_; clear hK25 K25
      refine Kw.WC_seq (fun K27 hK27 => ?_)
      refine Kw.WC_false rfl ?_
      refine Kw.WC_exit ?_
      refine Kw.QE_then ?_; clear hK27 K27
      refine Kw.QE_then ?_
      refine Kw.QE_here ?_
      refine hK21 _ _ ?_; clear hK21 K21
      refine Kw.WC_seq (fun K28 hK28 => ?_)
      refine Kw.WC_region [some 72, some 73, some 74, some 75, some 76, none, some 77, some 78, none, some 79, some 80, none] rfl ?_
      refine Kw.WL_v rfl rfl rfl (Kw.R_move rfl) ?_
      refine Kw.WL_v rfl rfl rfl (Kw.R_move rfl) ?_
      refine Kw.WL_v rfl rfl rfl (Kw.R_move rfl) ?_
      refine Kw.WL_v rfl rfl rfl (Kw.R_nilok rfl) ?_
      refine Kw.WL_v rfl rfl rfl (Kw.R_fieldAddr (o' := 1) (k := 0) rfl Try.underlying52 rfl F.sz50 rfl) ?_
      refine Kw.WL_store1 (ds := #[.map (some mb), .slice none 0 0, .int .i64 cap, .bool false, .int .i64 starts, .bool fails, .int .i64 left, .int .i64 keep]) rfl rfl rfl F.sz50 A_tb (by show 1 < 8; decide) rfl rfl (rfl) ?_; intro w29 M_tb
      replace A_mb := A_mb.chg M_tb.chg NE_mb_tb
      replace A_gm := A_gm.chg M_tb.chg (Nat.ne_of_gt L_tb_gm)
      replace A_r := A_r.chg M_tb.chg (Nat.ne_of_gt L_tb_gm) (Nat.ne_of_gt L_tb_r)
      replace A_tb : Kw.At w29 tb #[.map (some mb), .slice none 0 0, .int .i64 cap, .bool false, .int .i64 starts, .bool fails, .int .i64 left, .int .i64 keep] 52 := M_tb.at_ A_tb
      replace O_lv := O_lv.wrote M_tb D_lv_tb
      replace HB := HB.chg M_tb.chg (.inl (.inl rfl)); clear M_tb
      refine Kw.WL_v rfl rfl rfl (Kw.R_nilok rfl) ?_
      refine Kw.WL_v rfl rfl rfl (Kw.R_fieldAddr (o' := 3) (k := 0) rfl Try.underlying52 rfl F.sz4 rfl) ?_
      refine Kw.WL_store1 (ds := #[.map (some mb), .slice none 0 0, .int .i64 cap, .bool true, .int .i64 starts, .bool fails, .int .i64 left, .int .i64 keep]) rfl rfl rfl F.sz4 A_tb (by show 3 < 8; decide) rfl rfl (rfl) ?_; intro w30 M_tb
      replace A_mb := A_mb.chg M_tb.chg NE_mb_tb
      replace A_gm := A_gm.chg M_tb.chg (Nat.ne_of_gt L_tb_gm)
      replace A_r := A_r.chg M_tb.chg (Nat.ne_of_gt L_tb_gm) (Nat.ne_of_gt L_tb_r)
      replace A_tb : Kw.At w30 tb #[.map (some mb), .slice none 0 0, .int .i64 cap, .bool true, .int .i64 starts, .bool fails, .int .i64 left, .int .i64 keep] 52 := M_tb.at_ A_tb
      replace O_lv := O_lv.wrote M_tb D_lv_tb
      replace HB := HB.chg M_tb.chg (.inl (.inl rfl)); clear M_tb
      refine Kw.WL_v rfl rfl rfl (Kw.R_nilok rfl) ?_
      refine Kw.WL_v rfl rfl rfl (Kw.R_fieldAddr (o' := 5) (k := 0) rfl Try.underlying52 rfl F.sz4 rfl) ?_
      refine Kw.WL_store1 (ds := #[.map (some mb), .slice none 0 0, .int .i64 cap, .bool true, .int .i64 starts, .bool false, .int .i64 left, .int .i64 keep]) rfl rfl rfl F.sz4 A_tb (by show 5 < 8; decide) rfl rfl (rfl) ?_; intro w31 M_tb
      replace A_mb := A_mb.chg M_tb.chg NE_mb_tb
      replace A_gm := A_gm.chg M_tb.chg (Nat.ne_of_gt L_tb_gm)
      replace A_r := A_r.chg M_tb.chg (Nat.ne_of_gt L_tb_gm) (Nat.ne_of_gt L_tb_r)
      replace A_tb : Kw.At w31 tb #[.map (some mb), .slice none 0 0, .int .i64 cap, .bool true, .int .i64 starts, .bool false, .int .i64 left, .int .i64 keep] 52 := M_tb.at_ A_tb
      replace O_lv := O_lv.wrote M_tb D_lv_tb
      replace HB := HB.chg M_tb.chg (.inl (.inl rfl)); clear M_tb
      refine Kw.WL_nil ?_
      refine hK28 _ _ ?_; clear hK28 K28
      refine Kw.WC_sub (l' := []) Kw.Sub.nil ?_
      refine Kw.WC_seq (fun K32 hK32 => ?_)
      refine Kw.WC_region [some 4] rfl ?_
      refine Kw.WL_v rfl rfl rfl (Kw.R_assign rfl) ?_
      refine Kw.WL_nil ?_
      refine hK32 _ _ ?_; clear hK32 K32
      refine Kw.WC_ret ?_
      have hF : fD E2 = cutF Fl (goneOf Q kq) := by rw [hC, hE]; exact cutF_congr Fl fun n => by rw [← hG2]; exact lookI_perm hGn hP n
      exact Kw.post_ret1 rfl rfl ⟨rfl, ⟨mb, .slice none 0 0, E2, hF, A_tb, A_mb, Kw.Own.nil _ _ _ _, NE_mb_tb, (fun h => by cases h), (fun h => by cases h), (FL2.mut HB (fun k hk => by rcases hk with h | h; exact .inr (.inl h); exact .inr (.inr (.inl h)))).mono (fun k _ hk => by rcases hk with h | h | h | h; exact .inl h; exact .inr (.inl h); exact .inr (.inr (.inl h)); cases h), M_tb, M_mb, (fun g h => by cases h)⟩, HB.mono (fun k hk => by rcases hk with h | h; rw [h]; exact M_tb; rw [h]; exact M_mb)⟩
    ·
      replace A_mb := A_mb.chg C_r (Nat.ne_of_lt L_mb_r)
      replace A_tb := A_tb.chg C_r (Nat.ne_of_lt L_tb_r)
      replace A_gm := A_gm.chg C_r (Nat.ne_of_lt L_gm_r)
      replace O_lv := C_r.keepO O_lv D_lv_r
      replace HB := HB.chg C_r (.inr G_r)
      clear A_r; have A_r := I_r; clear I_r C_r
      have hlen := A_r.len; rw [List.length_append] at hlen; have hlen1 : ([p] : List (Int × Int)).length = 1 := rfl
      refine Kw.WL_v rfl rfl rfl (Kw.R_extract (v := .bool true) rfl rfl) ?_
      refine Kw.WL_nil ?_
      refine hK25 _ _ ?_; clear hK25 K25
      refine Kw.WC_seq (fun K33 hK33 => ?_)
      refine Kw.WC_true rfl ?_
      refine Kw.WC_skip ?_
      refine hK33 _ _ ?_; clear hK33 K33
      refine Kw.WC_block ?_
      refine Kw.WC_seq (fun K34 hK34 => ?_)
      refine Kw.WC_region [some 50, some 51, some 52, some 10, some 11] rfl ?_
      refine Kw.WL_v rfl rfl rfl (Kw.R_entry (v := .tuple #[.int .i64 p.1, .int .i64 p.2]) rfl hen) ?_
      refine Kw.WL_v rfl rfl rfl (Kw.R_extract (v := .int .i64 p.1) rfl rfl) ?_
      refine Kw.WL_v rfl rfl rfl (Kw.R_extract (v := .int .i64 p.2) rfl rfl) ?_
      refine Kw.WL_v rfl rfl rfl (Kw.R_assign rfl) ?_
      refine Kw.WL_v rfl rfl rfl (Kw.R_assign rfl) ?_
      refine Kw.WL_nil ?_
      refine hK34 _ _ ?_; clear hK34 K34
      refine Kw.WC_seq (fun K35 hK35 => ?_)
      refine Kw.WC_seq (fun K36 hK36 => ?_)
      refine Kw.WC_region [some 53, some 54] rfl ?_
      refine Kw.WL_v rfl rfl rfl (Kw.R_move rfl) ?_
      have hVn := iter_ne I0 hGn hpT hpV; clear I0
      by_cases c37 : (p.2 : Int) = (0 : Int)
      ·
        refine Kw.WL_v rfl rfl rfl (Kw.R_eqi (z := true) rfl rfl (decide_eq_true c37)) ?_
        refine Kw.WL_nil ?_
        refine hK36 _ _ ?_; clear hK36 K36
        refine Kw.WC_sub (l' := [(0, .pointer (some ⟨tb, 0, none⟩)), (47, .pointer (some ⟨r, 0, none⟩)), (10, .int .i64 p.1), (11, .int .i64 p.2), (54, .bool true)]) (Kw.Sub.cons rfl (Kw.Sub.cons rfl (Kw.Sub.cons rfl (Kw.Sub.cons rfl (Kw.Sub.cons rfl Kw.Sub.nil))))) ?_
        refine Kw.WC_true rfl ?_
        refine Kw.WC_exit ?_
        refine Kw.QE_then ?_; clear hK35 K35
        refine Kw.QE_here ?_
        refine Kw.QN_round ((V ++ [p], E2)) ⟨⟨cut_zero hC hVn (by assumption), FL2⟩, A_mb, A_tb, A_gm, A_r, O_lv, HB⟩ (by dsimp only; rw [List.length_append]; omega) (Kw.Sub.cons rfl (Kw.Sub.cons rfl Kw.Sub.nil))
      ·
        refine Kw.WL_v rfl rfl rfl (Kw.R_eqi (z := false) rfl rfl (decide_eq_false c37)) ?_
        have h0 : p.2 ≠ 0 := by assumption
        obtain ⟨fv, s, hfg, hm1, hm2⟩ := crash_get W hE hnd hC hVn (by rw [← hG2]; exact hGn) (by rw [← hG2]; exact hpT) h0
        obtain ⟨O_fv, hfq⟩ := FL2.get hfg
        obtain ⟨gf, capf, curf, rfl, hBf, A_gf, hcf, hsf, htf⟩ := O_fv.open (by omega)
        have hsl := filesLen_get (cut_step hnd hC hVn hfg).1; rw [hE] at hsl; have hsl2 := W.lenF; dsimp only at hsl2
        refine Kw.WL_nil ?_
        refine hK36 _ _ ?_; clear hK36 K36
        refine Kw.WC_sub (l' := [(0, .pointer (some ⟨tb, 0, none⟩)), (47, .pointer (some ⟨r, 0, none⟩)), (10, .int .i64 p.1), (11, .int .i64 p.2), (54, .bool false)]) (Kw.Sub.cons rfl (Kw.Sub.cons rfl (Kw.Sub.cons rfl (Kw.Sub.cons rfl (Kw.Sub.cons rfl Kw.Sub.nil))))) ?_
        refine Kw.WC_false rfl ?_
        refine Kw.WC_skip ?_
        refine hK35 _ _ ?_; clear hK35 K35
        refine Kw.WC_seq (fun K38 hK38 => ?_)
        refine Kw.WC_region [some 55, some 56, some 57, some 58, some 59, some 60, some 12] rfl ?_
        refine Kw.WL_v rfl rfl rfl (Kw.R_move rfl) ?_
        refine Kw.WL_v rfl rfl rfl (Kw.R_nilok rfl) ?_
        refine Kw.WL_v rfl rfl rfl (Kw.R_fieldAddr (o' := 0) (k := 0) rfl Try.underlying52 rfl F.sz49 rfl) ?_
        refine Kw.WL_v rfl rfl rfl (Kw.R_load1 (v := .map (some mb)) rfl Try.underlying49 rfl A_tb rfl) ?_
        refine Kw.WL_v rfl rfl rfl (Kw.R_move rfl) ?_
        refine Kw.WL_v rfl rfl rfl (Kw.R_lookup (v := .slice (some ⟨gf, 0, none⟩) s.length capf) KI3 rfl rfl Try.underlying49 F.ze54 A_mb (A_gm.oks p hpT) (by rw [tget_fT, hfg]; rfl)) ?_
        refine Kw.WL_v rfl rfl rfl (Kw.R_assign rfl) ?_
        refine Kw.WL_nil ?_
        refine hK38 _ _ ?_; clear hK38 K38
        refine Kw.WC_sub (l' := [(0, .pointer (some ⟨tb, 0, none⟩)), (47, .pointer (some ⟨r, 0, none⟩)), (10, .int .i64 p.1), (11, .int .i64 p.2), (12, .slice (some ⟨gf, 0, none⟩) s.length capf)]) (Kw.Sub.cons rfl (Kw.Sub.cons rfl (Kw.Sub.cons rfl (Kw.Sub.cons rfl (Kw.Sub.cons rfl Kw.Sub.nil))))) ?_
        refine Kw.WC_still 11 [some 61, some 62, some 63, some 64, some 65, some 66, some 67, some 68, some 69, some 70, some 71, none] rfl (by kernel_rfl) (by kernel_rfl) ?_
        simp only [List.take_succ_cons, List.take_zero, List.drop_succ_cons, List.drop_zero]
        obtain ⟨w39, hww39⟩ : ∃ x : World, x = Go.World.drew w26 := ⟨_, rfl⟩
        rw [← hww39]
        replace A_mb : FM w39 mb (fT E2) := by rw [hww39]; exact A_mb
        replace A_tb : Kw.At w39 tb #[.map (some mb), lv, .int .i64 cap, .bool false, .int .i64 starts, .bool fails, .int .i64 left, .int .i64 keep] 52 := by rw [hww39]; exact A_tb
        replace A_gm : GM w39 gm G := by rw [hww39]; exact A_gm
        replace A_r : ItG w39 r gm G (V ++ [p]) := by rw [hww39]; exact A_r
        replace O_lv := O_lv.drew; rw [← hww39] at O_lv
        replace HB : Kw.Mut (fun k => k = tb ∨ k = mb) w w39 := by rw [hww39]; exact HB.drew
        clear hww39
        refine Kw.WS_v rfl rfl rfl (Kw.R_move rfl) ?_
        refine Kw.WS_v rfl rfl rfl (Kw.R_nilok rfl) ?_
        refine Kw.WS_v rfl rfl rfl (Kw.R_fieldAddr (o' := 0) (k := 0) rfl Try.underlying52 rfl F.sz49 rfl) ?_
        refine Kw.WS_v rfl rfl rfl (Kw.R_load1 (v := .map (some mb)) rfl Try.underlying49 rfl A_tb rfl) ?_
        refine Kw.WS_v rfl rfl rfl (Kw.R_move rfl) ?_
        refine Kw.WS_v rfl rfl rfl (Kw.R_move rfl) ?_
        refine Kw.WS_v rfl rfl rfl (Kw.R_move rfl) ?_
        refine Kw.WS_v rfl rfl rfl (Kw.R_lenl Try.underlying54 rfl) ?_
        refine Kw.WS_v rfl rfl rfl (Kw.R_move rfl) ?_
        refine Kw.WS_v rfl rfl rfl (Kw.R_sub (c := ((s.length - p.2.toNat : Nat) : Int)) rfl rfl (by rw [Kw.wrap_i64 (by omega)]; omega)) ?_
        refine Kw.WS_v rfl rfl rfl (Kw.R_slicel (i := 0) (j := (s.length - p.2.toNat : Nat)) (m := capf) (o' := 0) rfl Try.underlying54 F.sz5 rfl ⟨_, rfl⟩ rfl (by omega) (by omega) (by omega) rfl (by simp)) ?_
        refine Kw.WS_nil ?_
        refine Kw.WL_mapUpdate (a := p.1) (u := (cutV (.slice (some ⟨gf, 0, none⟩) s.length capf) (s.length - p.2.toNat))) KI3 rfl rfl rfl rfl Try.underlying49 A_mb (A_gm.oks p hpT) ?_; intro w40 C_mb B_mb; clear A_mb; have A_mb := B_mb; clear B_mb
        replace A_tb := A_tb.chg C_mb (Ne.symm NE_mb_tb)
        replace A_gm := A_gm.chg C_mb (Nat.ne_of_gt L_mb_gm)
        replace A_r := A_r.chg C_mb (Nat.ne_of_gt L_mb_gm) (Nat.ne_of_gt L_mb_r)
        replace O_lv := C_mb.keepO O_lv D_lv_mb
        replace HB := HB.chg C_mb (.inl (.inr rfl))
        clear C_mb
        refine Kw.WL_nil ?_
        refine Kw.QN_block ?_
        refine Kw.QN_round ((V ++ [p], Kw.tset E2 p.1 ((cutV (.slice (some ⟨gf, 0, none⟩) s.length capf) (s.length - p.2.toNat)), cutL s p.2))) ⟨⟨(cut_step hnd hC hVn hfg).2, FL2.cut hnd2 hfg⟩, (by rw [← tset_fT]; exact A_mb), A_tb, A_gm, A_r, O_lv, HB⟩ (by dsimp only; rw [List.length_append]; omega) (Kw.Sub.cons rfl (Kw.Sub.cons rfl Kw.Sub.nil))
end Go.Proofs.Ytcmgeadakncgmaa.Fn
