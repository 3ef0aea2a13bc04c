/- Append, Size, Read and the changes that fail. -/
import Derived.Test.YtcmgeadakncgmaaDm3
namespace Go.Proofs.Ytcmgeadakncgmaa.Fn
open Go Go.Proofs Go.RowKit
set_option linter.unusedVariables false
set_option linter.unusedSimpArgs false
theorem Files.take2 {w : World} {B : Nat} {q : Nat → Prop} {E : List File} (h : Files w B q E) {n : Int} {v : Value} {s : List UInt8} (hn : Kw.tget E n = some (v, s)) : ∀ e ∈ E, e.1 ≠ n → ∀ g, Kw.ob e.2.1 = some g → ¬ q g ∧ Kw.ob v ≠ some g :=
  fun e he hne g hg => ⟨(h.1 e he).2 g hg, h.2 e he _ (Kw.tget_mem hn) hne g hg⟩
theorem append_hE {E : List File} {Fl : List (Int × List UInt8)} (hE : fD E = Fl) (n : Int) (v : Value) (s : List UInt8) : fD (Kw.tset E n (v, s)) = Kw.tset Fl n s := by rw [← hE, tset_fD]

set_option maxRecDepth 100000 in
set_option maxHeartbeats 4000000 in
theorem append_c (B : Nat) (N : Nat → Prop) (tb : Nat) (d : Dk) (w : World) (hB : B ≤ w.heap.size) (hN : ∀ k, N k → k < w.heap.size) (R : DK w B N tb d) (hd : d.down = false) (W : WF d) (hl : -1000000000 ≤ d.left ∧ d.left ≤ 1000000000) (hc : 0 ≤ d.cap ∧ d.cap ≤ 1048576) (n : Int) (hn : okI n) (s0 : List UInt8) (hg : Kw.tget d.F n = some s0) (s : ByteArray) (hfit : (s.size : Int) ≤ freeD d) (hQ : d.Q.length < 1000000) (ha : looseAll d.Q + s.size ≤ 1000000000) : Calls Try.prog 10 #[.pointer (some ⟨tb, 0, none⟩), .int .i64 n, .string s] w fun e w' => e = .returned (.int .i64 (appendD d n s0 s.data.toList).1) ∧ DK w' B N tb (appendD d n s0 s.data.toList).2 ∧ Kw.Mut (Mine B N) w w' := by
  have R0 := R
  obtain ⟨Fl, Q, cap, down, starts, fails, left, keep⟩ := d
  dsimp only at hd
  subst hd
  obtain ⟨mb, lv, E, hE, A_tb0, A_mb, O_lv, NE_mb_tb, D_lv_tb, D_lv_mb, FL, M_tb, M_mb, M_lv⟩ := R
  have A_tb : Kw.At w tb #[.map (some mb), lv, .int .i64 cap, .bool false, .int .i64 starts, .bool fails, .int .i64 left, .int .i64 keep] 52 := A_tb0
  clear A_tb0
  replace hE : fD E = Fl := hE
  replace O_lv : Kw.Own w B 56 2 lv Q.length (flatQ Q) := O_lv
  have hnd : (E.map (·.1)).Nodup := by have := A_mb.nodup KI3; rwa [fT_fst] at this
  dsimp only at hl hc hg hQ ha
  unfold freeD at hfit; dsimp only at hfit
  obtain ⟨fv, hgE, hgf⟩ := get_file hE hg
  obtain ⟨O_fv, hfq⟩ := FL.get hgE
  have D_fv_tb : Kw.ob fv ≠ some tb := fun h => hfq tb h (.inr (.inl rfl))
  have D_fv_mb : Kw.ob fv ≠ some mb := fun h => hfq mb h (.inr (.inr (.inl rfl)))
  have E_lv_fv : ∀ g, Kw.ob lv = some g → Kw.ob fv ≠ some g := fun g h1 h2 => hfq g h2 (.inr (.inr (.inr h1)))
  have E_fv_lv : ∀ g, Kw.ob fv = some g → Kw.ob lv ≠ some g := fun g h1 h2 => hfq g h1 (.inr (.inr (.inr h2)))
  have hls0 := filesLen_get hg
  have hlf := W.lenF; dsimp only at hlf
  have W2 := W.put (s := s.data.toList) hg hn hQ (by rw [size_list]; exact ha) (by rw [size_list]; dsimp only; omega)
  have O_lv0 := O_lv; have O_fv0 := O_fv
  have HB : Kw.Mut (fun k => k = tb ∨ k = mb ∨ Kw.ob lv = some k ∨ Kw.ob fv = some k) w w := Kw.Mut.refl _ _
  refine Kw.enter Try.func10 rfl Try.ntmps10 rfl rfl ?_
  refine Kw.WC_seq (fun K1 hK1 => ?_)
  refine Kw.WC_region [some 6] rfl ?_
  refine Kw.WL_v rfl rfl rfl (Kw.R_assign rfl) ?_
  refine Kw.WL_nil ?_
  refine hK1 _ _ ?_; clear hK1 K1
  refine Kw.WC_seq (fun K2 hK2 => ?_)
  refine Kw.WC_region [some 8, some 9, some 10, some 7] rfl ?_
  refine Kw.WL_v rfl rfl rfl (Kw.R_move rfl) ?_
  refine Kw.WL_v rfl rfl rfl (Kw.R_move rfl) ?_
  refine Kw.WL_callc rfl rfl rfl rfl F.cl25 rfl (has_yes tb mb lv cap starts fails left keep _ A_tb (fT E) A_mb n hn fv hgf) ?_; intro ww hww; rw [hww]; clear hww ww
  refine Kw.WL_v rfl rfl rfl (Kw.R_assign rfl) ?_
  refine Kw.WL_nil ?_
  refine hK2 _ _ ?_; clear hK2 K2
  refine Kw.WC_seq (fun K3 hK3 => ?_)
  refine Kw.WC_block ?_
  refine Kw.WC_seq (fun K4 hK4 => ?_)
  refine Kw.WC_region [some 12, some 13, some 11] rfl ?_
  refine Kw.WL_v rfl rfl rfl (Kw.R_move rfl) ?_
  refine Kw.WL_v rfl rfl rfl (Kw.R_nei (z := false) rfl rfl (decide_eq_true (by omega))) ?_
  refine Kw.WL_v rfl rfl rfl (Kw.R_assign rfl) ?_
  refine Kw.WL_nil ?_
  refine hK4 _ _ ?_; clear hK4 K4
  refine Kw.WC_sub (l' := [(0, .pointer (some ⟨tb, 0, none⟩)), (1, .int .i64 n), (2, .string s), (7, .int .i64 0), (11, .bool false)]) (Kw.Sub.cons rfl (Kw.Sub.cons rfl (Kw.Sub.cons rfl (Kw.Sub.cons rfl (Kw.Sub.cons rfl Kw.Sub.nil))))) ?_
  refine Kw.WC_false rfl ?_
  refine Kw.WC_seq (fun K5 hK5 => ?_)
  refine Kw.WC_region [some 16, some 17, some 18, some 19, some 20, some 15] rfl ?_
  refine Kw.WL_v rfl rfl rfl (Kw.R_move rfl) ?_
  refine Kw.WL_v rfl rfl rfl (Kw.R_lens Try.underlying9 rfl) ?_
  refine Kw.WL_v rfl rfl rfl (Kw.R_move rfl) ?_
  have hfr := free_c B N tb _ w hB hN R0 rfl W hc; unfold freeD at hfr; dsimp only at hfr
  refine Kw.WL_callc rfl rfl rfl rfl F.cl23 rfl hfr ?_; rintro w6 hm
  replace A_mb := A_mb.mut hm (fun h => h)
  replace A_tb := A_tb.mut hm (fun h => h)
  replace O_lv := O_lv.mut hm (fun g hg h => h)
  replace O_fv := O_fv.mut hm (fun g hg h => h)
  replace HB := HB.then_ hm (fun k hk => hk.elim); clear hm
  refine Kw.WL_v rfl rfl rfl (Kw.R_gtr (z := false) rfl rfl (decide_eq_false (by omega))) ?_
  refine Kw.WL_v rfl rfl rfl (Kw.R_assign rfl) ?_
  refine Kw.WL_nil ?_
  refine hK5 _ _ ?_; clear hK5 K5
  refine Kw.WC_sub (l' := [(0, .pointer (some ⟨tb, 0, none⟩)), (1, .int .i64 n), (2, .string s), (15, .bool false)]) (Kw.Sub.cons rfl (Kw.Sub.cons rfl (Kw.Sub.cons rfl (Kw.Sub.cons rfl Kw.Sub.nil)))) ?_
  refine Kw.WC_false rfl ?_
  refine Kw.WC_skip ?_
  refine Kw.QN_block ?_
  refine hK3 _ _ ?_; clear hK3 K3
  refine Kw.WC_seq (fun K7 hK7 => ?_)
  refine Kw.WC_sched (fun ww => Kw.At ww tb #[.map (some mb), lv, .int .i64 cap, .bool false, .int .i64 starts, .bool fails, .int .i64 left, .int .i64 keep] 52 ∧ True) [(0, true), (1, true), (2, true), (3, true), (4, true), (5, true), (6, true), (7, true), (8, true), (9, true), (11, true), (10, false), (12, false), (13, false)] [some 21, some 22, some 23, some 24, some 25, some 26, some 27, some 28, some 29, some 30, some 31, some 32, some 33, none] rfl (by kernel_rfl) rfl (by kernel_rfl) ?_
  obtain ⟨w8, hww8⟩ : ∃ x : World, x = Go.World.drew w6 := ⟨_, rfl⟩
  rw [← hww8]
  replace A_mb : FM w8 mb (fT E) := by rw [hww8]; exact A_mb
  replace A_tb : Kw.At w8 tb #[.map (some mb), lv, .int .i64 cap, .bool false, .int .i64 starts, .bool fails, .int .i64 left, .int .i64 keep] 52 := by rw [hww8]; exact A_tb
  replace O_lv := O_lv.drew; rw [← hww8] at O_lv
  replace O_fv := O_fv.drew; rw [← hww8] at O_fv
  replace HB : Kw.Mut (fun k => k = tb ∨ k = mb ∨ Kw.ob lv = some k ∨ Kw.ob fv = some k) w w8 := by rw [hww8]; exact HB.drew
  clear hww8
  have hS : Kw.At w8 tb #[.map (some mb), lv, .int .i64 cap, .bool false, .int .i64 starts, .bool fails, .int .i64 left, .int .i64 keep] 52 ∧ True := ⟨A_tb, trivial⟩
  refine Kw.WX_take rfl rfl rfl rfl (fun _ _ _ h => h) hS (fun _ ⟨A_tb, _⟩ => Kw.R_move rfl) ?_
  refine Kw.WX_take rfl rfl rfl rfl (fun _ _ _ h => h) hS (fun _ ⟨A_tb, _⟩ => Kw.R_nilok rfl) ?_
  refine Kw.WX_take rfl rfl rfl rfl (fun _ _ _ h => h) hS (fun _ ⟨A_tb, _⟩ => Kw.R_fieldAddr (o' := 0) (k := 0) rfl Try.underlying52 rfl F.sz49 rfl) ?_
  refine Kw.WX_take rfl rfl rfl rfl (fun _ _ _ h => h) hS (fun _ ⟨A_tb, _⟩ => Kw.R_load1 (v := .map (some mb)) rfl Try.underlying49 rfl A_tb rfl) ?_
  refine Kw.WX_take rfl rfl rfl rfl (fun _ _ _ h => h) hS (fun _ ⟨A_tb, _⟩ => Kw.R_move rfl) ?_
  refine Kw.WX_take rfl rfl rfl rfl (fun _ _ _ h => h) hS (fun _ ⟨A_tb, _⟩ => Kw.R_move rfl) ?_
  refine Kw.WX_take rfl rfl rfl rfl (fun _ _ _ h => h) hS (fun _ ⟨A_tb, _⟩ => Kw.R_nilok rfl) ?_
  refine Kw.WX_take rfl rfl rfl rfl (fun _ _ _ h => h) hS (fun _ ⟨A_tb, _⟩ => Kw.R_fieldAddr (o' := 0) (k := 0) rfl Try.underlying52 rfl F.sz49 rfl) ?_
  refine Kw.WX_take rfl rfl rfl rfl (fun _ _ _ h => h) hS (fun _ ⟨A_tb, _⟩ => Kw.R_load1 (v := .map (some mb)) rfl Try.underlying49 rfl A_tb rfl) ?_
  refine Kw.WX_take rfl rfl rfl rfl (fun _ _ _ h => h) hS (fun _ ⟨A_tb, _⟩ => Kw.R_move rfl) ?_
  refine Kw.WX_take rfl rfl rfl rfl (fun _ _ _ h => h) hS (fun _ ⟨A_tb, _⟩ => Kw.R_move rfl) ?_
  refine Kw.WX_v rfl rfl rfl rfl (Kw.R_lookup (v := fv) KI3 rfl rfl Try.underlying49 F.ze54 A_mb hn (by rw [hgf]; try rfl)) hS ?_
  refine Kw.WX_append rfl rfl rfl rfl rfl Try.underlying54 Try.underlying9 (.inl rfl) F.sz5 F.by5 F.ze5 rfl O_fv Kw.News.str (by unfold maxLen; omega) (by omega) (Nat.le_trans hB HB.size) ?_; intro fw w9 O_fw R_fw
  have D_fw_mb := R_fw.neLt A_mb.lt D_fv_mb
  replace A_mb := A_mb.grew R_fw D_fv_mb
  have D_fw_tb := R_fw.ne A_tb D_fv_tb
  replace A_tb := R_fw.keep A_tb D_fv_tb
  have E_lv_fw := R_fw.neO O_lv E_lv_fv; replace O_lv := R_fw.keepO O_lv E_lv_fv
  have E_fw_lv : ∀ g, Kw.ob fw = some g → Kw.ob lv ≠ some g := fun g h1 h2 => E_lv_fw g h2 h1
  have HB0 := HB; replace HB := HB.grew R_fw (fun g hg => .inl (.inr (.inr (.inr hg)))); have HFWn : ∀ g, Kw.ob fw = some g → Kw.ob fv = some g ∨ w.heap.size ≤ g := fun g h => by rcases R_fw.fresh with h1 | ⟨g2, h1, h2⟩; exact .inl (by rw [← h1]; exact h); (rw [h] at h1; cases h1; exact .inr (Nat.le_trans HB0.size h2))
  have HFW : ∀ g, g < w.heap.size → Kw.ob fw = some g → Kw.ob fv = some g := fun g hl h => (HFWn g h).elim id (fun h2 => by omega)
  clear HB0 R_fw
  replace O_fw : Kw.Own w9 B 5 1 fw ((s0 ++ s.data.toList).length) (byV (s0 ++ s.data.toList)) := by rw [List.length_append, size_list, byV_app]; exact O_fw
  clear O_fv
  clear hS; have hS : Kw.At w9 tb #[.map (some mb), lv, .int .i64 cap, .bool false, .int .i64 starts, .bool fails, .int .i64 left, .int .i64 keep] 52 ∧ True := ⟨A_tb, trivial⟩
  refine ⟨hS, ?_⟩
  refine Kw.WX_mapUpdate (a := n) (u := fw) KI3 rfl rfl rfl rfl rfl Try.underlying49 A_mb hn ?_; intro w10 C_mb B_mb; clear A_mb; have A_mb := B_mb; clear B_mb
  replace A_tb := A_tb.chg C_mb (Ne.symm NE_mb_tb)
  replace O_lv := C_mb.keepO O_lv D_lv_mb
  replace O_fw := C_mb.keepO O_fw D_fw_mb
  replace HB := HB.chg C_mb (.inl (.inr (.inl rfl)))
  clear C_mb
  clear hS; have hS : Kw.At w10 tb #[.map (some mb), lv, .int .i64 cap, .bool false, .int .i64 starts, .bool fails, .int .i64 left, .int .i64 keep] 52 ∧ True := ⟨A_tb, trivial⟩
  refine ⟨hS, ?_⟩
  refine Kw.WX_nil ?_
  clear hS
  refine hK7 _ _ ?_; clear hK7 K7
  refine Kw.WC_sub (l' := [(0, .pointer (some ⟨tb, 0, none⟩)), (1, .int .i64 n), (2, .string s)]) (Kw.Sub.cons rfl (Kw.Sub.cons rfl (Kw.Sub.cons rfl Kw.Sub.nil))) ?_
  refine Kw.WC_seq (fun K11 hK11 => ?_)
  refine Kw.WC_region [some 34, some 35, some 36, some 37, some 38, some 39, some 40, some 41, some 42, some 43, some 44, some 45, some 46, none] rfl ?_
  refine Kw.WL_v rfl rfl rfl (Kw.R_move rfl) ?_
  refine Kw.WL_v rfl rfl rfl (Kw.R_move rfl) ?_
  refine Kw.WL_v rfl rfl rfl (Kw.R_nilok rfl) ?_
  refine Kw.WL_v rfl rfl rfl (Kw.R_fieldAddr (o' := 1) (k := 0) rfl Try.underlying52 rfl F.sz50 rfl) ?_
  refine Kw.WL_v rfl rfl rfl (Kw.R_load1 (v := lv) rfl Try.underlying50 rfl A_tb rfl) ?_
  refine Kw.WL_v rfl rfl rfl (Kw.R_move rfl) ?_
  refine Kw.WL_v rfl rfl rfl (Kw.R_move rfl) ?_
  refine Kw.WL_v rfl rfl rfl (Kw.R_lens Try.underlying9 rfl) ?_
  refine Kw.WL_v rfl rfl rfl (Kw.R_build (cs := #[.int .i64 n, .int .i64 (s.size : Int)]) rfl (fun w => by kernel_rfl)) ?_
  obtain ⟨gq, w12, N_gq⟩ : ∃ b_ w2_, Kw.Newb w10 b_ #[.int .i64 n, .int .i64 (s.size : Int)] 56 w2_ := ⟨_, _, rfl, rfl⟩
  refine Kw.WL_v rfl rfl rfl (Kw.R_buildSlice rfl (fun w => by kernel_rfl) N_gq) ?_
  have L_mb_gq : mb < gq := (by rw [N_gq.num]; exact A_mb.lt); replace A_mb := A_mb.new N_gq
  have L_tb_gq := N_gq.ne A_tb; replace A_tb := N_gq.keep A_tb
  have A_gq : Kw.At w12 gq #[.int .i64 n, .int .i64 (s.size : Int)] 56 := N_gq.at_
  have D_lv_gq := O_lv.ne_new N_gq; replace O_lv := O_lv.new N_gq
  have D_fw_gq := O_fw.ne_new N_gq; replace O_fw := O_fw.new N_gq
  have G_gq := HB.ge N_gq; replace HB := HB.new N_gq; clear N_gq
  refine Kw.WL_append rfl rfl rfl rfl Try.underlying50 Try.underlying50 (.inr ⟨_, rfl⟩) F.sz56 F.by56 F.ze56 rfl O_lv (Kw.News.row (news := [.int .i64 n, .int .i64 (s.size : Int)]) A_gq rfl rfl (by simp [Value.oneCell'])) (by unfold maxLen; omega) (by omega) (Nat.le_trans hB HB.size) ?_; intro lw w13 O_lw R_lw
  have D_lw_mb := R_lw.neLt A_mb.lt D_lv_mb
  replace A_mb := A_mb.grew R_lw D_lv_mb
  have D_lw_tb := R_lw.ne A_tb D_lv_tb
  replace A_tb := R_lw.keep A_tb D_lv_tb
  have D_lw_gq := R_lw.ne A_gq D_lv_gq
  replace A_gq := R_lw.keep A_gq D_lv_gq
  have E_fw_lw := R_lw.neO O_fw E_fw_lv; replace O_fw := R_lw.keepO O_fw E_fw_lv
  have E_lw_fw : ∀ g, Kw.ob lw = some g → Kw.ob fw ≠ some g := fun g h1 h2 => E_fw_lw g h2 h1
  have HB0 := HB; replace HB := HB.grew R_lw (fun g hg => .inl (.inr (.inr (.inl hg)))); have HLWn : ∀ g, Kw.ob lw = some g → Kw.ob lv = some g ∨ w.heap.size ≤ g := fun g h => by rcases R_lw.fresh with h1 | ⟨g2, h1, h2⟩; exact .inl (by rw [← h1]; exact h); (rw [h] at h1; cases h1; exact .inr (Nat.le_trans HB0.size h2))
  have HLW : ∀ g, g < w.heap.size → Kw.ob lw = some g → Kw.ob lv = some g := fun g hl h => (HLWn g h).elim id (fun h2 => by omega)
  clear HB0 R_lw
  replace O_lw : Kw.Own w13 B 56 2 lw ((Q ++ [(n, s.size)]).length) (flatQ (Q ++ [(n, s.size)])) := by rw [List.length_append, flatQ_snoc]; exact O_lw
  clear O_lv
  clear A_gq
  refine Kw.WL_v rfl rfl rfl (Kw.R_nilok rfl) ?_
  refine Kw.WL_v rfl rfl rfl (Kw.R_fieldAddr (o' := 1) (k := 0) rfl Try.underlying52 rfl F.sz50 rfl) ?_
  refine Kw.WL_store1 (ds := #[.map (some mb), lw, .int .i64 cap, .bool false, .int .i64 starts, .bool fails, .int .i64 left, .int .i64 keep]) rfl rfl rfl F.sz50 A_tb (by show 1 < 8; decide) (by obtain ⟨a, c, h⟩ := O_lw.shape; rw [h]; rfl) (by obtain ⟨a, c, h⟩ := O_lw.shape; rw [h]; rfl) (rfl) ?_; intro w14 M_tb
  replace A_mb := A_mb.chg M_tb.chg NE_mb_tb
  replace A_tb : Kw.At w14 tb #[.map (some mb), lw, .int .i64 cap, .bool false, .int .i64 starts, .bool fails, .int .i64 left, .int .i64 keep] 52 := M_tb.at_ A_tb
  replace O_fw := O_fw.wrote M_tb D_fw_tb
  replace O_lw := O_lw.wrote M_tb D_lw_tb
  replace HB := HB.chg M_tb.chg (.inl (.inl rfl)); clear M_tb
  refine Kw.WL_nil ?_
  refine hK11 _ _ ?_; clear hK11 K11
  refine Kw.WC_sub (l' := [(0, .pointer (some ⟨tb, 0, none⟩))]) (Kw.Sub.cons rfl Kw.Sub.nil) ?_
  refine Kw.WC_seq (fun K15 hK15 => ?_)
  refine Kw.WC_seq (fun K16 hK16 => ?_)
  refine Kw.WC_region [some 47, some 48] rfl ?_
  refine Kw.WL_v rfl rfl rfl (Kw.R_move rfl) ?_
  cases fails
  ·
    refine Kw.WL_callc rfl rfl rfl rfl F.cl26 rfl (sinks_no tb mb lw cap false starts left keep _ A_tb) ?_; intro ww hww; rw [hww]; clear hww ww
    refine Kw.WL_nil ?_
    refine hK16 _ _ ?_; clear hK16 K16
    refine Kw.WC_false rfl ?_
    refine Kw.WC_skip ?_
    refine hK15 _ _ ?_; clear hK15 K15
    refine Kw.WC_seq (fun K17 hK17 => ?_)
    refine Kw.WC_region [some 6] rfl ?_
    refine Kw.WL_v rfl rfl rfl (Kw.R_assign rfl) ?_
    refine Kw.WL_nil ?_
    refine hK17 _ _ ?_; clear hK17 K17
    refine Kw.WC_ret ?_
    have hpd : putD ⟨Fl, Q, cap, false, starts, false, left, keep⟩ n s0 s.data.toList = ⟨(Kw.tset Fl n (s0 ++ s.data.toList)), (Q ++ [(n, s.size)]), cap, false, starts, false, left, keep⟩ := by simp [putD]
    have hr : appendD ⟨Fl, Q, cap, false, starts, false, left, keep⟩ n s0 s.data.toList = (0, ⟨(Kw.tset Fl n (s0 ++ s.data.toList)), (Q ++ [(n, s.size)]), cap, false, starts, false, left, keep⟩) := by unfold appendD; rw [hpd]; simp [orSink, tickB, tickD]
    rw [hr]
    rw [tset_fT (s := s0 ++ s.data.toList)] at A_mb
    have hFq : Files w14 B (fun k => N k ∨ k = tb ∨ k = mb ∨ Kw.ob lw = some k) (Kw.tset E n (fw, s0 ++ s.data.toList)) := by
      have hneq : ∀ e ∈ E, e.1 ≠ n → ∀ g, Kw.ob e.2.1 = some g → Kw.ob fw ≠ some g ∧ Kw.ob lw ≠ some g := fun e he hne g hge => ⟨fun h2 => (FL.take2 hgE e he hne g hge).2 (HFW g ((FL.1 e he).1.lt hge) h2), fun h2 => (FL.1 e he).2 g hge (.inr (.inr (.inr (HLW g ((FL.1 e he).1.lt hge) h2))))⟩
      have h1 : Files w14 B (fun k => N k ∨ k = tb ∨ k = mb) (Kw.tset E n (fw, s0 ++ s.data.toList)) := Files.set (FL.mono fun k _ hk => by rcases hk with h | h | h; exact .inl h; exact .inr (.inl h); exact .inr (.inr (.inl h))) hnd O_fw (fun g hgf2 hk => by rcases hk with h | h | h; exact (HFWn g hgf2).elim (fun h2 => hfq g h2 (.inl h)) (fun h2 => by have := hN g h; omega); exact D_fw_tb (by rw [hgf2, h]); exact D_fw_mb (by rw [hgf2, h])) HB (fun e he hne g hge => ⟨fun hk => by rcases hk with h | h | h | h; exact (FL.1 e he).2 g hge (.inr (.inl h)); exact (FL.1 e he).2 g hge (.inr (.inr (.inl h))); exact (FL.1 e he).2 g hge (.inr (.inr (.inr h))); exact (FL.take2 hgE e he hne g hge).2 h, (hneq e he hne g hge).1⟩)
      refine ⟨fun e he => ⟨(h1.1 e he).1, fun g hge hk => ?_⟩, h1.2⟩
      rcases hk with h | h | h | h
      · exact (h1.1 e he).2 g hge (.inl h)
      · exact (h1.1 e he).2 g hge (.inr (.inl h))
      · exact (h1.1 e he).2 g hge (.inr (.inr h))
      · rcases tset_mem hnd e he with rfl | ⟨he, hne⟩
        · exact E_fw_lw g hge h
        · exact (hneq e he hne g hge).2 h
    have R2 : DK w14 B N tb ⟨(Kw.tset Fl n (s0 ++ s.data.toList)), (Q ++ [(n, s.size)]), cap, false, starts, false, left, keep⟩ := ⟨mb, lw, _, append_hE hE n fw _, A_tb, A_mb, O_lw, NE_mb_tb, D_lw_tb, D_lw_mb, hFq, M_tb, M_mb, (fun g hg2 hk => (HLWn g hg2).elim (fun h2 => M_lv g h2 hk) (fun h2 => by have := hN g hk; omega))⟩
    exact Kw.post_ret1 rfl rfl ⟨rfl, R2, HB.mono (fun k hk => by rcases hk with h | h | h | h; rw [h]; exact M_tb; rw [h]; exact M_mb; exact ⟨O_lv0.ge h, M_lv k h⟩; exact ⟨O_fv0.ge h, fun hN1 => hfq k h (.inl hN1)⟩)⟩
  ·
    by_cases hlt : left - 1 < 0
    ·
      have hsk := sinks_yes tb mb lw cap false starts left keep w14 A_tb hl; rw [decide_eq_true hlt] at hsk
      refine Kw.WL_callc rfl rfl rfl rfl F.cl26 rfl hsk ?_; rintro w18 ⟨B_tb, hm⟩; clear hsk
      replace A_mb := A_mb.mut hm (NE_mb_tb)
      replace O_fw := O_fw.mut hm (fun g hg e => D_fw_tb (by rw [hg, e]))
      replace O_lw := O_lw.mut hm (fun g hg e => D_lw_tb (by rw [hg, e]))
      clear A_tb; have A_tb := B_tb; clear B_tb; replace HB := HB.then_ hm (fun k hk => .inl (.inl hk)); clear hm
      refine Kw.WL_nil ?_
      refine hK16 _ _ ?_; clear hK16 K16
      refine Kw.WC_true rfl ?_
      refine Kw.WC_seq (fun K19 hK19 => ?_)
      refine Kw.WC_region [some 49, some 50, some 6] rfl ?_
      refine Kw.WL_v rfl rfl rfl (Kw.R_move rfl) ?_
      rw [tset_fT (s := s0 ++ s.data.toList)] at A_mb
      have hFq : Files w18 B (fun k => N k ∨ k = tb ∨ k = mb ∨ Kw.ob lw = some k) (Kw.tset E n (fw, s0 ++ s.data.toList)) := by
        have hneq : ∀ e ∈ E, e.1 ≠ n → ∀ g, Kw.ob e.2.1 = some g → Kw.ob fw ≠ some g ∧ Kw.ob lw ≠ some g := fun e he hne g hge => ⟨fun h2 => (FL.take2 hgE e he hne g hge).2 (HFW g ((FL.1 e he).1.lt hge) h2), fun h2 => (FL.1 e he).2 g hge (.inr (.inr (.inr (HLW g ((FL.1 e he).1.lt hge) h2))))⟩
        have h1 : Files w18 B (fun k => N k ∨ k = tb ∨ k = mb) (Kw.tset E n (fw, s0 ++ s.data.toList)) := Files.set (FL.mono fun k _ hk => by rcases hk with h | h | h; exact .inl h; exact .inr (.inl h); exact .inr (.inr (.inl h))) hnd O_fw (fun g hgf2 hk => by rcases hk with h | h | h; exact (HFWn g hgf2).elim (fun h2 => hfq g h2 (.inl h)) (fun h2 => by have := hN g h; omega); exact D_fw_tb (by rw [hgf2, h]); exact D_fw_mb (by rw [hgf2, h])) HB (fun e he hne g hge => ⟨fun hk => by rcases hk with h | h | h | h; exact (FL.1 e he).2 g hge (.inr (.inl h)); exact (FL.1 e he).2 g hge (.inr (.inr (.inl h))); exact (FL.1 e he).2 g hge (.inr (.inr (.inr h))); exact (FL.take2 hgE e he hne g hge).2 h, (hneq e he hne g hge).1⟩)
        refine ⟨fun e he => ⟨(h1.1 e he).1, fun g hge hk => ?_⟩, h1.2⟩
        rcases hk with h | h | h | h
        · exact (h1.1 e he).2 g hge (.inl h)
        · exact (h1.1 e he).2 g hge (.inr (.inl h))
        · exact (h1.1 e he).2 g hge (.inr (.inr h))
        · rcases tset_mem hnd e he with rfl | ⟨he, hne⟩
          · exact E_fw_lw g hge h
          · exact (hneq e he hne g hge).2 h
      have R2 : DK w18 B N tb ⟨(Kw.tset Fl n (s0 ++ s.data.toList)), (Q ++ [(n, s.size)]), cap, false, starts, true, left - 1, keep⟩ := ⟨mb, lw, _, append_hE hE n fw _, A_tb, A_mb, O_lw, NE_mb_tb, D_lw_tb, D_lw_mb, hFq, M_tb, M_mb, (fun g hg2 hk => (HLWn g hg2).elim (fun h2 => M_lv g h2 hk) (fun h2 => by have := hN g hk; omega))⟩
      have hB1 : B ≤ w18.heap.size := Nat.le_trans hB HB.size; have hN1 : ∀ k, N k → k < w18.heap.size := fun k hk => Nat.lt_of_lt_of_le (hN k hk) HB.size
      refine Kw.WL_callc rfl rfl rfl rfl F.cl27 rfl (sink_c B N tb _ _ hB1 hN1 R2 rfl (by have hw := W2.tick; simp only [putD, size_list, tickD] at hw; exact hw)) ?_; rintro w9 ⟨R3, hm⟩
      replace HB := (HB.mono (fun k hk => by rcases hk with h | h | h | h; rw [h]; exact M_tb; rw [h]; exact M_mb; exact ⟨O_lv0.ge h, M_lv k h⟩; exact ⟨O_fv0.ge h, fun hN1 => hfq k h (.inl hN1)⟩)).then_ hm (fun k hk => .inl hk)
      clear A_tb A_mb O_fw O_lw R2 hm
      refine Kw.WL_sub (l' := [(50, .int .i64 61)]) (Kw.Sub.cons rfl Kw.Sub.nil) ?_
      refine Kw.WL_v rfl rfl rfl (Kw.R_assign rfl) ?_
      refine Kw.WL_nil ?_
      refine hK19 _ _ ?_; clear hK19 K19
      refine Kw.WC_ret ?_
      refine Kw.QR_then ?_; clear hK15 K15
      have hpd : putD ⟨Fl, Q, cap, false, starts, true, left, keep⟩ n s0 s.data.toList = ⟨(Kw.tset Fl n (s0 ++ s.data.toList)), (Q ++ [(n, s.size)]), cap, false, starts, true, left, keep⟩ := by simp [putD]
      have hr : appendD ⟨Fl, Q, cap, false, starts, true, left, keep⟩ n s0 s.data.toList = (61, sinkD (tickD ⟨(Kw.tset Fl n (s0 ++ s.data.toList)), (Q ++ [(n, s.size)]), cap, false, starts, true, left, keep⟩)) := by unfold appendD; rw [hpd]; simp [orSink, tickB, hlt]
      rw [hr]
      exact Kw.post_ret1 rfl rfl ⟨rfl, R3, HB⟩
    ·
      have hsk := sinks_yes tb mb lw cap false starts left keep w14 A_tb hl; rw [decide_eq_false hlt] at hsk
      refine Kw.WL_callc rfl rfl rfl rfl F.cl26 rfl hsk ?_; rintro w20 ⟨B_tb, hm⟩; clear hsk
      replace A_mb := A_mb.mut hm (NE_mb_tb)
      replace O_fw := O_fw.mut hm (fun g hg e => D_fw_tb (by rw [hg, e]))
      replace O_lw := O_lw.mut hm (fun g hg e => D_lw_tb (by rw [hg, e]))
      clear A_tb; have A_tb := B_tb; clear B_tb; replace HB := HB.then_ hm (fun k hk => .inl (.inl hk)); clear hm
      refine Kw.WL_nil ?_
      refine hK16 _ _ ?_; clear hK16 K16
      refine Kw.WC_false rfl ?_
      refine Kw.WC_skip ?_
      refine hK15 _ _ ?_; clear hK15 K15
      refine Kw.WC_seq (fun K21 hK21 => ?_)
      refine Kw.WC_region [some 6] rfl ?_
      refine Kw.WL_v rfl rfl rfl (Kw.R_assign rfl) ?_
      refine Kw.WL_nil ?_
      refine hK21 _ _ ?_; clear hK21 K21
      refine Kw.WC_ret ?_
      have hpd : putD ⟨Fl, Q, cap, false, starts, true, left, keep⟩ n s0 s.data.toList = ⟨(Kw.tset Fl n (s0 ++ s.data.toList)), (Q ++ [(n, s.size)]), cap, false, starts, true, left, keep⟩ := by simp [putD]
      have hr : appendD ⟨Fl, Q, cap, false, starts, true, left, keep⟩ n s0 s.data.toList = (0, ⟨(Kw.tset Fl n (s0 ++ s.data.toList)), (Q ++ [(n, s.size)]), cap, false, starts, true, left - 1, keep⟩) := by unfold appendD; rw [hpd]; simp [orSink, tickB, tickD, show ¬ left - 1 < 0 from hlt]
      rw [hr]
      rw [tset_fT (s := s0 ++ s.data.toList)] at A_mb
      have hFq : Files w20 B (fun k => N k ∨ k = tb ∨ k = mb ∨ Kw.ob lw = some k) (Kw.tset E n (fw, s0 ++ s.data.toList)) := by
        have hneq : ∀ e ∈ E, e.1 ≠ n → ∀ g, Kw.ob e.2.1 = some g → Kw.ob fw ≠ some g ∧ Kw.ob lw ≠ some g := fun e he hne g hge => ⟨fun h2 => (FL.take2 hgE e he hne g hge).2 (HFW g ((FL.1 e he).1.lt hge) h2), fun h2 => (FL.1 e he).2 g hge (.inr (.inr (.inr (HLW g ((FL.1 e he).1.lt hge) h2))))⟩
        have h1 : Files w20 B (fun k => N k ∨ k = tb ∨ k = mb) (Kw.tset E n (fw, s0 ++ s.data.toList)) := Files.set (FL.mono fun k _ hk => by rcases hk with h | h | h; exact .inl h; exact .inr (.inl h); exact .inr (.inr (.inl h))) hnd O_fw (fun g hgf2 hk => by rcases hk with h | h | h; exact (HFWn g hgf2).elim (fun h2 => hfq g h2 (.inl h)) (fun h2 => by have := hN g h; omega); exact D_fw_tb (by rw [hgf2, h]); exact D_fw_mb (by rw [hgf2, h])) HB (fun e he hne g hge => ⟨fun hk => by rcases hk with h | h | h | h; exact (FL.1 e he).2 g hge (.inr (.inl h)); exact (FL.1 e he).2 g hge (.inr (.inr (.inl h))); exact (FL.1 e he).2 g hge (.inr (.inr (.inr h))); exact (FL.take2 hgE e he hne g hge).2 h, (hneq e he hne g hge).1⟩)
        refine ⟨fun e he => ⟨(h1.1 e he).1, fun g hge hk => ?_⟩, h1.2⟩
        rcases hk with h | h | h | h
        · exact (h1.1 e he).2 g hge (.inl h)
        · exact (h1.1 e he).2 g hge (.inr (.inl h))
        · exact (h1.1 e he).2 g hge (.inr (.inr h))
        · rcases tset_mem hnd e he with rfl | ⟨he, hne⟩
          · exact E_fw_lw g hge h
          · exact (hneq e he hne g hge).2 h
      have R2 : DK w20 B N tb ⟨(Kw.tset Fl n (s0 ++ s.data.toList)), (Q ++ [(n, s.size)]), cap, false, starts, true, left - 1, keep⟩ := ⟨mb, lw, _, append_hE hE n fw _, A_tb, A_mb, O_lw, NE_mb_tb, D_lw_tb, D_lw_mb, hFq, M_tb, M_mb, (fun g hg2 hk => (HLWn g hg2).elim (fun h2 => M_lv g h2 hk) (fun h2 => by have := hN g hk; omega))⟩
      exact Kw.post_ret1 rfl rfl ⟨rfl, R2, HB.mono (fun k hk => by rcases hk with h | h | h | h; rw [h]; exact M_tb; rw [h]; exact M_mb; exact ⟨O_lv0.ge h, M_lv k h⟩; exact ⟨O_fv0.ge h, fun hN1 => hfq k h (.inl hN1)⟩)⟩

set_option maxRecDepth 100000 in
set_option maxHeartbeats 4000000 in
theorem append_full (B : Nat) (N : Nat → Prop) (tb : Nat) (d : Dk) (w : World) (hB : B ≤ w.heap.size) (hN : ∀ k, N k → k < w.heap.size) (R : DK w B N tb d) (hd : d.down = false) (W : WF d) (hc : 0 ≤ d.cap ∧ d.cap ≤ 1048576) (n : Int) (hn : okI n) (s0 : List UInt8) (hg : Kw.tget d.F n = some s0) (s : ByteArray) (hfit : freeD d < (s.size : Int)) : Calls Try.prog 10 #[.pointer (some ⟨tb, 0, none⟩), .int .i64 n, .string s] w fun e w' => e = .returned (.int .i64 60) ∧ Kw.Mut (fun _ => False) w w' := by
  have R0 := R
  obtain ⟨Fl, Q, cap, down, starts, fails, left, keep⟩ := d
  dsimp only at hd
  subst hd
  obtain ⟨mb, lv, E, hE, A_tb0, A_mb, O_lv, NE_mb_tb, D_lv_tb, D_lv_mb, FL, M_tb, M_mb, M_lv⟩ := R
  have A_tb : Kw.At w tb #[.map (some mb), lv, .int .i64 cap, .bool false, .int .i64 starts, .bool fails, .int .i64 left, .int .i64 keep] 52 := A_tb0
  clear A_tb0
  replace hE : fD E = Fl := hE
  replace O_lv : Kw.Own w B 56 2 lv Q.length (flatQ Q) := O_lv
  have hnd : (E.map (·.1)).Nodup := by have := A_mb.nodup KI3; rwa [fT_fst] at this
  dsimp only at hc hg
  unfold freeD at hfit; dsimp only at hfit
  obtain ⟨fv, hgE, hgf⟩ := get_file hE hg
  obtain ⟨O_fv, hfq⟩ := FL.get hgE
  have D_fv_tb : Kw.ob fv ≠ some tb := fun h => hfq tb h (.inr (.inl rfl))
  have D_fv_mb : Kw.ob fv ≠ some mb := fun h => hfq mb h (.inr (.inr (.inl rfl)))
  have E_lv_fv : ∀ g, Kw.ob lv = some g → Kw.ob fv ≠ some g := fun g h1 h2 => hfq g h2 (.inr (.inr (.inr h1)))
  have E_fv_lv : ∀ g, Kw.ob fv = some g → Kw.ob lv ≠ some g := fun g h1 h2 => hfq g h1 (.inr (.inr (.inr h2)))
  have hls0 := filesLen_get hg
  have HB : Kw.Mut (fun _ => False) w w := Kw.Mut.refl _ _
  refine Kw.enter Try.func10 rfl Try.ntmps10 rfl rfl ?_
  refine Kw.WC_seq (fun K1 hK1 => ?_)
  refine Kw.WC_region [some 6] rfl ?_
  refine Kw.WL_v rfl rfl rfl (Kw.R_assign rfl) ?_
  refine Kw.WL_nil ?_
  refine hK1 _ _ ?_; clear hK1 K1
  refine Kw.WC_seq (fun K2 hK2 => ?_)
  refine Kw.WC_region [some 8, some 9, some 10, some 7] rfl ?_
  refine Kw.WL_v rfl rfl rfl (Kw.R_move rfl) ?_
  refine Kw.WL_v rfl rfl rfl (Kw.R_move rfl) ?_
  refine Kw.WL_callc rfl rfl rfl rfl F.cl25 rfl (has_yes tb mb lv cap starts fails left keep _ A_tb (fT E) A_mb n hn fv hgf) ?_; intro ww hww; rw [hww]; clear hww ww
  refine Kw.WL_v rfl rfl rfl (Kw.R_assign rfl) ?_
  refine Kw.WL_nil ?_
  refine hK2 _ _ ?_; clear hK2 K2
  refine Kw.WC_seq (fun K3 hK3 => ?_)
  refine Kw.WC_block ?_
  refine Kw.WC_seq (fun K4 hK4 => ?_)
  refine Kw.WC_region [some 12, some 13, some 11] rfl ?_
  refine Kw.WL_v rfl rfl rfl (Kw.R_move rfl) ?_
  refine Kw.WL_v rfl rfl rfl (Kw.R_nei (z := false) rfl rfl (decide_eq_true (by omega))) ?_
  refine Kw.WL_v rfl rfl rfl (Kw.R_assign rfl) ?_
  refine Kw.WL_nil ?_
  refine hK4 _ _ ?_; clear hK4 K4
  refine Kw.WC_sub (l' := [(0, .pointer (some ⟨tb, 0, none⟩)), (1, .int .i64 n), (2, .string s), (7, .int .i64 0), (11, .bool false)]) (Kw.Sub.cons rfl (Kw.Sub.cons rfl (Kw.Sub.cons rfl (Kw.Sub.cons rfl (Kw.Sub.cons rfl Kw.Sub.nil))))) ?_
  refine Kw.WC_false rfl ?_
  refine Kw.WC_seq (fun K5 hK5 => ?_)
  refine Kw.WC_region [some 16, some 17, some 18, some 19, some 20, some 15] rfl ?_
  refine Kw.WL_v rfl rfl rfl (Kw.R_move rfl) ?_
  refine Kw.WL_v rfl rfl rfl (Kw.R_lens Try.underlying9 rfl) ?_
  refine Kw.WL_v rfl rfl rfl (Kw.R_move rfl) ?_
  have hfr := free_c B N tb _ w hB hN R0 rfl W hc; unfold freeD at hfr; dsimp only at hfr
  refine Kw.WL_callc rfl rfl rfl rfl F.cl23 rfl hfr ?_; rintro w6 hm; clear A_tb A_mb O_lv O_fv HB
  refine Kw.WL_v rfl rfl rfl (Kw.R_gtr (z := true) rfl rfl (decide_eq_true (by omega))) ?_
  refine Kw.WL_v rfl rfl rfl (Kw.R_assign rfl) ?_
  refine Kw.WL_nil ?_
  refine hK5 _ _ ?_; clear hK5 K5
  refine Kw.WC_sub (l' := [(0, .pointer (some ⟨tb, 0, none⟩)), (1, .int .i64 n), (2, .string s), (15, .bool true)]) (Kw.Sub.cons rfl (Kw.Sub.cons rfl (Kw.Sub.cons rfl (Kw.Sub.cons rfl Kw.Sub.nil)))) ?_
  refine Kw.WC_true rfl ?_
  refine Kw.WC_seq (fun K7 hK7 => ?_)
  refine Kw.WC_region [some 6] rfl ?_
  refine Kw.WL_v rfl rfl rfl (Kw.R_assign rfl) ?_
  refine Kw.WL_nil ?_
  refine hK7 _ _ ?_; clear hK7 K7
  refine Kw.WC_ret ?_
  refine Kw.QR_block ?_
  refine Kw.QR_then ?_; clear hK3 K3
  exact Kw.post_ret1 rfl rfl ⟨rfl, hm⟩

set_option maxRecDepth 100000 in
set_option maxHeartbeats 4000000 in
theorem up_c (B : Nat) (N : Nat → Prop) (tb : Nat) (d : Dk) (w : World) (hB : B ≤ w.heap.size) (hN : ∀ k, N k → k < w.heap.size) (R : DK w B N tb d) (hd : d.down = false) : Calls Try.prog 12 #[.pointer (some ⟨tb, 0, none⟩)] w fun e w' => e = .returned (.bool true) ∧ w' = w := by
  have R0 := R
  obtain ⟨Fl, Q, cap, down, starts, fails, left, keep⟩ := d
  dsimp only at hd
  subst hd
  obtain ⟨mb, lv, E, hE, A_tb0, A_mb, O_lv, NE_mb_tb, D_lv_tb, D_lv_mb, FL, M_tb, M_mb, M_lv⟩ := R
  have A_tb : Kw.At w tb #[.map (some mb), lv, .int .i64 cap, .bool false, .int .i64 starts, .bool fails, .int .i64 left, .int .i64 keep] 52 := A_tb0
  clear A_tb0
  replace hE : fD E = Fl := hE
  replace O_lv : Kw.Own w B 56 2 lv Q.length (flatQ Q) := O_lv
  have hnd : (E.map (·.1)).Nodup := by have := A_mb.nodup KI3; rwa [fT_fst] at this
  have HB : w = w := rfl
  refine Kw.enter Try.func12 rfl Try.ntmps12 rfl rfl ?_
  refine Kw.WC_seq (fun K1 hK1 => ?_)
  refine Kw.WC_region [some 2] rfl ?_
  refine Kw.WL_v rfl rfl rfl (Kw.R_assign rfl) ?_
  refine Kw.WL_nil ?_
  refine hK1 _ _ ?_; clear hK1 K1
  refine Kw.WC_seq (fun K2 hK2 => ?_)
  refine Kw.WC_region [some 3, some 4, some 5, some 2] rfl ?_
  refine Kw.WL_v rfl rfl rfl (Kw.R_move rfl) ?_
  refine Kw.WL_callc rfl rfl rfl rfl F.cl28 rfl (ready_up tb mb lv cap starts fails left keep _ A_tb) ?_; intro ww hww; rw [hww]; clear hww ww
  refine Kw.WL_v rfl rfl rfl (Kw.R_eqi (z := true) rfl rfl (decide_eq_true (by omega))) ?_
  refine Kw.WL_v rfl rfl rfl (Kw.R_assign rfl) ?_
  refine Kw.WL_nil ?_
  refine hK2 _ _ ?_; clear hK2 K2
  refine Kw.WC_ret ?_
  exact Kw.post_ret1 rfl rfl ⟨rfl, rfl⟩
set_option maxRecDepth 100000 in
set_option maxHeartbeats 4000000 in
theorem down_c (B : Nat) (N : Nat → Prop) (tb : Nat) (d : Dk) (w : World) (hB : B ≤ w.heap.size) (hN : ∀ k, N k → k < w.heap.size) (R : DK w B N tb d) (hd : d.down = true) : Calls Try.prog 12 #[.pointer (some ⟨tb, 0, none⟩)] w fun e w' => e = .returned (.bool false) ∧ w' = w := by
  have R0 := R
  obtain ⟨Fl, Q, cap, down, starts, fails, left, keep⟩ := d
  dsimp only at hd
  subst hd
  obtain ⟨mb, lv, E, hE, A_tb0, A_mb, O_lv, NE_mb_tb, D_lv_tb, D_lv_mb, FL, M_tb, M_mb, M_lv⟩ := R
  have A_tb : Kw.At w tb #[.map (some mb), lv, .int .i64 cap, .bool true, .int .i64 starts, .bool fails, .int .i64 left, .int .i64 keep] 52 := A_tb0
  clear A_tb0
  replace hE : fD E = Fl := hE
  replace O_lv : Kw.Own w B 56 2 lv Q.length (flatQ Q) := O_lv
  have hnd : (E.map (·.1)).Nodup := by have := A_mb.nodup KI3; rwa [fT_fst] at this
  have HB : w = w := rfl
  refine Kw.enter Try.func12 rfl Try.ntmps12 rfl rfl ?_
  refine Kw.WC_seq (fun K1 hK1 => ?_)
  refine Kw.WC_region [some 2] rfl ?_
  refine Kw.WL_v rfl rfl rfl (Kw.R_assign rfl) ?_
  refine Kw.WL_nil ?_
  refine hK1 _ _ ?_; clear hK1 K1
  refine Kw.WC_seq (fun K2 hK2 => ?_)
  refine Kw.WC_region [some 3, some 4, some 5, some 2] rfl ?_
  refine Kw.WL_v rfl rfl rfl (Kw.R_move rfl) ?_
  refine Kw.WL_callc rfl rfl rfl rfl F.cl28 rfl (ready_down tb mb lv cap starts fails left keep _ A_tb) ?_; intro ww hww; rw [hww]; clear hww ww
  refine Kw.WL_v rfl rfl rfl (Kw.R_eqi (z := false) rfl rfl (decide_eq_false (by omega))) ?_
  refine Kw.WL_v rfl rfl rfl (Kw.R_assign rfl) ?_
  refine Kw.WL_nil ?_
  refine hK2 _ _ ?_; clear hK2 K2
  refine Kw.WC_ret ?_
  exact Kw.post_ret1 rfl rfl ⟨rfl, rfl⟩
set_option maxRecDepth 100000 in
set_option maxHeartbeats 4000000 in
theorem sync_down (B : Nat) (N : Nat → Prop) (tb : Nat) (d : Dk) (w : World) (hB : B ≤ w.heap.size) (hN : ∀ k, N k → k < w.heap.size) (R : DK w B N tb d) (hd : d.down = true) : Calls Try.prog 9 #[.pointer (some ⟨tb, 0, none⟩)] w fun e w' => e = .returned (.int .i64 61) ∧ w' = w := by
  have R0 := R
  obtain ⟨Fl, Q, cap, down, starts, fails, left, keep⟩ := d
  dsimp only at hd
  subst hd
  obtain ⟨mb, lv, E, hE, A_tb0, A_mb, O_lv, NE_mb_tb, D_lv_tb, D_lv_mb, FL, M_tb, M_mb, M_lv⟩ := R
  have A_tb : Kw.At w tb #[.map (some mb), lv, .int .i64 cap, .bool true, .int .i64 starts, .bool fails, .int .i64 left, .int .i64 keep] 52 := A_tb0
  clear A_tb0
  replace hE : fD E = Fl := hE
  replace O_lv : Kw.Own w B 56 2 lv Q.length (flatQ Q) := O_lv
  have hnd : (E.map (·.1)).Nodup := by have := A_mb.nodup KI3; rwa [fT_fst] at this
  have HB : w = w := rfl
  refine Kw.enter Try.func9 rfl Try.ntmps9 rfl rfl ?_
  refine Kw.WC_seq (fun K1 hK1 => ?_)
  refine Kw.WC_region [some 2] rfl ?_
  refine Kw.WL_v rfl rfl rfl (Kw.R_assign rfl) ?_
  refine Kw.WL_nil ?_
  refine hK1 _ _ ?_; clear hK1 K1
  refine Kw.WC_seq (fun K2 hK2 => ?_)
  refine Kw.WC_region [some 4, some 5, some 3] rfl ?_
  refine Kw.WL_v rfl rfl rfl (Kw.R_move rfl) ?_
  refine Kw.WL_callc rfl rfl rfl rfl F.cl28 rfl (ready_down tb mb lv cap starts fails left keep _ A_tb) ?_; intro ww hww; rw [hww]; clear hww ww
  refine Kw.WL_v rfl rfl rfl (Kw.R_assign rfl) ?_
  refine Kw.WL_nil ?_
  refine hK2 _ _ ?_; clear hK2 K2
  refine Kw.WC_seq (fun K3 hK3 => ?_)
  refine Kw.WC_block ?_
  refine Kw.WC_seq (fun K4 hK4 => ?_)
  refine Kw.WC_region [some 7, some 8, some 6] rfl ?_
  refine Kw.WL_v rfl rfl rfl (Kw.R_move rfl) ?_
  refine Kw.WL_v rfl rfl rfl (Kw.R_nei (z := true) rfl rfl (decide_eq_false (by omega))) ?_
  refine Kw.WL_v rfl rfl rfl (Kw.R_assign rfl) ?_
  refine Kw.WL_nil ?_
  refine hK4 _ _ ?_; clear hK4 K4
  refine Kw.WC_true rfl ?_
  refine Kw.WC_seq (fun K5 hK5 => ?_)
  refine Kw.WC_region [some 9, some 2] rfl ?_
  refine Kw.WL_v rfl rfl rfl (Kw.R_move rfl) ?_
  refine Kw.WL_v rfl rfl rfl (Kw.R_assign rfl) ?_
  refine Kw.WL_nil ?_
  refine hK5 _ _ ?_; clear hK5 K5
  refine Kw.WC_sub (l' := [(2, .int .i64 61)]) (Kw.Sub.cons rfl Kw.Sub.nil) ?_
  refine Kw.WC_ret ?_
  refine Kw.QR_block ?_
  refine Kw.QR_then ?_; clear hK3 K3
  exact Kw.post_ret1 rfl rfl ⟨rfl, rfl⟩

set_option maxRecDepth 100000 in
set_option maxHeartbeats 4000000 in
theorem size_c (B : Nat) (N : Nat → Prop) (tb : Nat) (d : Dk) (w : World) (hB : B ≤ w.heap.size) (hN : ∀ k, N k → k < w.heap.size) (R : DK w B N tb d) (hd : d.down = false) (W : WF d) (n : Int) (hn : okI n) (s0 : List UInt8) (hg : Kw.tget d.F n = some s0) : Calls Try.prog 22 #[.pointer (some ⟨tb, 0, none⟩), .int .i64 n] w fun e w' => e = .returned (.tuple #[.int .i64 (s0.length : Int), .int .i64 0]) ∧ w' = w := by
  have R0 := R
  obtain ⟨Fl, Q, cap, down, starts, fails, left, keep⟩ := d
  dsimp only at hd
  subst hd
  obtain ⟨mb, lv, E, hE, A_tb0, A_mb, O_lv, NE_mb_tb, D_lv_tb, D_lv_mb, FL, M_tb, M_mb, M_lv⟩ := R
  have A_tb : Kw.At w tb #[.map (some mb), lv, .int .i64 cap, .bool false, .int .i64 starts, .bool fails, .int .i64 left, .int .i64 keep] 52 := A_tb0
  clear A_tb0
  replace hE : fD E = Fl := hE
  replace O_lv : Kw.Own w B 56 2 lv Q.length (flatQ Q) := O_lv
  have hnd : (E.map (·.1)).Nodup := by have := A_mb.nodup KI3; rwa [fT_fst] at this
  dsimp only at hg
  obtain ⟨fv, hgE, hgf⟩ := get_file hE hg
  obtain ⟨O_fv, hfq⟩ := FL.get hgE
  have D_fv_tb : Kw.ob fv ≠ some tb := fun h => hfq tb h (.inr (.inl rfl))
  have D_fv_mb : Kw.ob fv ≠ some mb := fun h => hfq mb h (.inr (.inr (.inl rfl)))
  have E_lv_fv : ∀ g, Kw.ob lv = some g → Kw.ob fv ≠ some g := fun g h1 h2 => hfq g h2 (.inr (.inr (.inr h1)))
  have E_fv_lv : ∀ g, Kw.ob fv = some g → Kw.ob lv ≠ some g := fun g h1 h2 => hfq g h1 (.inr (.inr (.inr h2)))
  have hls0 := filesLen_get hg
  have HB : w = w := rfl
  refine Kw.enter Try.func22 rfl Try.ntmps22 rfl rfl ?_
  refine Kw.WC_seq (fun K1 hK1 => ?_)
  refine Kw.WC_region [some 4, some 5] rfl ?_
  refine Kw.WL_v rfl rfl rfl (Kw.R_assign rfl) ?_
  refine Kw.WL_v rfl rfl rfl (Kw.R_assign rfl) ?_
  refine Kw.WL_nil ?_
  refine hK1 _ _ ?_; clear hK1 K1
  refine Kw.WC_seq (fun K2 hK2 => ?_)
  refine Kw.WC_seq (fun K3 hK3 => ?_)
  refine Kw.WC_region [some 7, some 8, some 9, some 6] rfl ?_
  refine Kw.WL_v rfl rfl rfl (Kw.R_move rfl) ?_
  refine Kw.WL_v rfl rfl rfl (Kw.R_move rfl) ?_
  refine Kw.WL_callc rfl rfl rfl rfl F.cl25 rfl (has_yes tb mb lv cap starts fails left keep _ A_tb (fT E) A_mb n hn fv hgf) ?_; intro ww hww; rw [hww]; clear hww ww
  refine Kw.WL_v rfl rfl rfl (Kw.R_assign rfl) ?_
  refine Kw.WL_nil ?_
  refine hK3 _ _ ?_; clear hK3 K3
  refine Kw.WC_seq (fun K4 hK4 => ?_)
  refine Kw.WC_region [some 10, some 11] rfl ?_
  refine Kw.WL_v rfl rfl rfl (Kw.R_move rfl) ?_
  refine Kw.WL_v rfl rfl rfl (Kw.R_nei (z := false) rfl rfl (decide_eq_true (by omega))) ?_
  refine Kw.WL_nil ?_
  refine hK4 _ _ ?_; clear hK4 K4
  refine Kw.WC_sub (l' := [(0, .pointer (some ⟨tb, 0, none⟩)), (1, .int .i64 n), (6, .int .i64 0), (11, .bool false)]) (Kw.Sub.cons rfl (Kw.Sub.cons rfl (Kw.Sub.cons rfl (Kw.Sub.cons rfl Kw.Sub.nil)))) ?_
  refine Kw.WC_false rfl ?_
  refine Kw.WC_skip ?_
  refine hK2 _ _ ?_; clear hK2 K2
  refine Kw.WC_seq (fun K5 hK5 => ?_)
  refine Kw.WC_region [some 13, some 14, some 15, some 16, some 17, some 18, some 19, some 4, some 5] rfl ?_
  refine Kw.WL_v rfl rfl rfl (Kw.R_move rfl) ?_
  refine Kw.WL_v rfl rfl rfl (Kw.R_nilok rfl) ?_
  refine Kw.WL_v rfl rfl rfl (Kw.R_fieldAddr (o' := 0) (k := 0) rfl Try.underlying52 rfl F.sz49 rfl) ?_
  refine Kw.WL_v rfl rfl rfl (Kw.R_load1 (v := .map (some mb)) rfl Try.underlying49 rfl A_tb rfl) ?_
  refine Kw.WL_v rfl rfl rfl (Kw.R_move rfl) ?_
  refine Kw.WL_v rfl rfl rfl (Kw.R_lookup (v := fv) KI3 rfl rfl Try.underlying49 F.ze54 A_mb hn (by rw [hgf]; try rfl)) ?_
  refine Kw.WL_v rfl rfl rfl (Kw.R_leno Try.underlying54 rfl O_fv) ?_
  refine Kw.WL_v rfl rfl rfl (Kw.R_assign rfl) ?_
  refine Kw.WL_v rfl rfl rfl (Kw.R_assign rfl) ?_
  refine Kw.WL_nil ?_
  refine hK5 _ _ ?_; clear hK5 K5
  refine Kw.WC_sub (l' := [(4, .int .i64 ((s0.length : Nat) : Int)), (5, .int .i64 0)]) (Kw.Sub.cons rfl (Kw.Sub.cons rfl Kw.Sub.nil)) ?_
  refine Kw.WC_ret ?_
  exact Kw.post_ret2 rfl rfl rfl ⟨rfl, rfl⟩

set_option maxRecDepth 100000 in
set_option maxHeartbeats 4000000 in
theorem read_c (B : Nat) (N : Nat → Prop) (tb : Nat) (d : Dk) (w : World) (hB : B ≤ w.heap.size) (hN : ∀ k, N k → k < w.heap.size) (R : DK w B N tb d) (hd : d.down = false) (W : WF d) (n : Int) (hn : okI n) (s : ByteArray) (hg : Kw.tget d.F n = some s.data.toList) : Calls Try.prog 21 #[.pointer (some ⟨tb, 0, none⟩), .int .i64 n, .int .i64 0, .int .i64 (s.size : Int)] w fun e w' => e = .returned (.tuple #[.string s, .int .i64 0]) ∧ w' = w := by
  have R0 := R
  obtain ⟨Fl, Q, cap, down, starts, fails, left, keep⟩ := d
  dsimp only at hd
  subst hd
  obtain ⟨mb, lv, E, hE, A_tb0, A_mb, O_lv, NE_mb_tb, D_lv_tb, D_lv_mb, FL, M_tb, M_mb, M_lv⟩ := R
  have A_tb : Kw.At w tb #[.map (some mb), lv, .int .i64 cap, .bool false, .int .i64 starts, .bool fails, .int .i64 left, .int .i64 keep] 52 := A_tb0
  clear A_tb0
  replace hE : fD E = Fl := hE
  replace O_lv : Kw.Own w B 56 2 lv Q.length (flatQ Q) := O_lv
  have hnd : (E.map (·.1)).Nodup := by have := A_mb.nodup KI3; rwa [fT_fst] at this
  dsimp only at hg
  obtain ⟨fv, hgE, hgf⟩ := get_file hE hg
  obtain ⟨O_fv, hfq⟩ := FL.get hgE
  have D_fv_tb : Kw.ob fv ≠ some tb := fun h => hfq tb h (.inr (.inl rfl))
  have D_fv_mb : Kw.ob fv ≠ some mb := fun h => hfq mb h (.inr (.inr (.inl rfl)))
  have E_lv_fv : ∀ g, Kw.ob lv = some g → Kw.ob fv ≠ some g := fun g h1 h2 => hfq g h2 (.inr (.inr (.inr h1)))
  have E_fv_lv : ∀ g, Kw.ob fv = some g → Kw.ob lv ≠ some g := fun g h1 h2 => hfq g h1 (.inr (.inr (.inr h2)))
  have hls0 := filesLen_get hg
  have hlf := W.lenF; dsimp only at hlf
  rw [size_list] at hls0
  have hsl := size_list s
  have HB : w = w := rfl
  refine Kw.enter Try.func21 rfl Try.ntmps21 rfl rfl ?_
  refine Kw.WC_seq (fun K1 hK1 => ?_)
  refine Kw.WC_region [some 8, some 9] rfl ?_
  refine Kw.WL_v rfl rfl rfl (Kw.R_assign rfl) ?_
  refine Kw.WL_v rfl rfl rfl (Kw.R_assign rfl) ?_
  refine Kw.WL_nil ?_
  refine hK1 _ _ ?_; clear hK1 K1
  refine Kw.WC_seq (fun K2 hK2 => ?_)
  refine Kw.WC_seq (fun K3 hK3 => ?_)
  refine Kw.WC_region [some 12, some 13, some 14, some 10] rfl ?_
  refine Kw.WL_v rfl rfl rfl (Kw.R_move rfl) ?_
  refine Kw.WL_v rfl rfl rfl (Kw.R_move rfl) ?_
  refine Kw.WL_callc rfl rfl rfl rfl F.cl25 rfl (has_yes tb mb lv cap starts fails left keep _ A_tb (fT E) A_mb n hn fv hgf) ?_; intro ww hww; rw [hww]; clear hww ww
  refine Kw.WL_v rfl rfl rfl (Kw.R_assign rfl) ?_
  refine Kw.WL_nil ?_
  refine hK3 _ _ ?_; clear hK3 K3
  refine Kw.WC_seq (fun K4 hK4 => ?_)
  refine Kw.WC_region [some 15, some 16] rfl ?_
  refine Kw.WL_v rfl rfl rfl (Kw.R_move rfl) ?_
  refine Kw.WL_v rfl rfl rfl (Kw.R_nei (z := false) rfl rfl (decide_eq_true (by omega))) ?_
  refine Kw.WL_nil ?_
  refine hK4 _ _ ?_; clear hK4 K4
  refine Kw.WC_sub (l' := [(0, .pointer (some ⟨tb, 0, none⟩)), (1, .int .i64 n), (2, .int .i64 0), (3, .int .i64 (s.size : Int)), (10, .int .i64 0), (16, .bool false)]) (Kw.Sub.cons rfl (Kw.Sub.cons rfl (Kw.Sub.cons rfl (Kw.Sub.cons rfl (Kw.Sub.cons rfl (Kw.Sub.cons rfl Kw.Sub.nil)))))) ?_
  refine Kw.WC_false rfl ?_
  refine Kw.WC_skip ?_
  refine hK2 _ _ ?_; clear hK2 K2
  refine Kw.WC_seq (fun K5 hK5 => ?_)
  refine Kw.WC_region [some 18, some 19, some 20, some 21, some 22, some 23, some 11] rfl ?_
  refine Kw.WL_v rfl rfl rfl (Kw.R_move rfl) ?_
  refine Kw.WL_v rfl rfl rfl (Kw.R_nilok rfl) ?_
  refine Kw.WL_v rfl rfl rfl (Kw.R_fieldAddr (o' := 0) (k := 0) rfl Try.underlying52 rfl F.sz49 rfl) ?_
  refine Kw.WL_v rfl rfl rfl (Kw.R_load1 (v := .map (some mb)) rfl Try.underlying49 rfl A_tb rfl) ?_
  refine Kw.WL_v rfl rfl rfl (Kw.R_move rfl) ?_
  refine Kw.WL_v rfl rfl rfl (Kw.R_lookup (v := fv) KI3 rfl rfl Try.underlying49 F.ze54 A_mb hn (by rw [hgf]; try rfl)) ?_
  refine Kw.WL_v rfl rfl rfl (Kw.R_assign rfl) ?_
  refine Kw.WL_nil ?_
  refine hK5 _ _ ?_; clear hK5 K5
  refine Kw.WC_sub (l' := [(2, .int .i64 0), (3, .int .i64 (s.size : Int)), (11, fv)]) (Kw.Sub.cons rfl (Kw.Sub.cons rfl (Kw.Sub.cons rfl Kw.Sub.nil))) ?_
  refine Kw.WC_seq (fun K6 hK6 => ?_)
  refine Kw.WC_seq (fun K7 hK7 => ?_)
  refine Kw.WC_region [some 24, some 25, some 26, some 27, some 28, some 29, some 30, some 31, some 32, some 33, some 34, some 35, some 36, some 37, some 38, some 39, some 40, some 41, some 42, some 43] rfl ?_
  refine Kw.WL_v rfl rfl rfl (Kw.R_move rfl) ?_
  refine Kw.WL_v rfl rfl rfl (Kw.R_lss (z := false) rfl rfl (decide_eq_false (by omega))) ?_
  refine Kw.WL_v rfl rfl rfl (Kw.R_move rfl) ?_
  refine Kw.WL_v rfl rfl rfl (Kw.R_move rfl) ?_
  refine Kw.WL_v rfl rfl rfl (Kw.R_move rfl) ?_
  refine Kw.WL_v rfl rfl rfl (Kw.R_leno Try.underlying54 rfl O_fv) ?_
  refine Kw.WL_v rfl rfl rfl (Kw.R_gtr (z := false) rfl rfl (decide_eq_false (by omega))) ?_
  refine Kw.WL_v rfl rfl rfl (Kw.R_pickf rfl rfl) ?_
  refine Kw.WL_v rfl rfl rfl (Kw.R_move rfl) ?_
  refine Kw.WL_v rfl rfl rfl (Kw.R_move rfl) ?_
  refine Kw.WL_v rfl rfl rfl (Kw.R_lss (z := false) rfl rfl (decide_eq_false (by omega))) ?_
  refine Kw.WL_v rfl rfl rfl (Kw.R_pickf rfl rfl) ?_
  refine Kw.WL_v rfl rfl rfl (Kw.R_move rfl) ?_
  refine Kw.WL_v rfl rfl rfl (Kw.R_move rfl) ?_
  refine Kw.WL_v rfl rfl rfl (Kw.R_move rfl) ?_
  refine Kw.WL_v rfl rfl rfl (Kw.R_leno Try.underlying54 rfl O_fv) ?_
  refine Kw.WL_v rfl rfl rfl (Kw.R_move rfl) ?_
  refine Kw.WL_v rfl rfl rfl (Kw.R_sub (c := (s.size : Int)) rfl rfl (by rw [Kw.wrap_i64 (by omega)]; omega)) ?_
  refine Kw.WL_v rfl rfl rfl (Kw.R_gtr (z := false) rfl rfl (decide_eq_false (by omega))) ?_
  refine Kw.WL_v rfl rfl rfl (Kw.R_pickf rfl rfl) ?_
  refine Kw.WL_nil ?_
  refine hK7 _ _ ?_; clear hK7 K7
  refine Kw.WC_sub (l' := [(2, .int .i64 0), (3, .int .i64 (s.size : Int)), (11, fv), (43, .bool false)]) (Kw.Sub.cons rfl (Kw.Sub.cons rfl (Kw.Sub.cons rfl (Kw.Sub.cons rfl Kw.Sub.nil)))) ?_
  refine Kw.WC_false rfl ?_
  refine Kw.WC_skip ?_
  refine hK6 _ _ ?_; clear hK6 K6
  refine Kw.WC_seq (fun K8 hK8 => ?_)
  refine Kw.WC_region [some 44, some 45, some 46, some 47, some 48, some 49, some 50, some 8, some 9] rfl ?_
  rcases O_fv.2 with ⟨rfl, hs0⟩ | ⟨gf, capf, curf, rfl, hBf, A_gf, hcf, hmf, hsf, htf⟩
  ·
    have hsz0 : s.size = 0 := by omega
    refine Kw.WL_v rfl rfl rfl (Kw.R_move rfl) ?_
    refine Kw.WL_v rfl rfl rfl (Kw.R_move rfl) ?_
    refine Kw.WL_v rfl rfl rfl (Kw.R_move rfl) ?_
    refine Kw.WL_v rfl rfl rfl (Kw.R_move rfl) ?_
    refine Kw.WL_v rfl rfl rfl (Kw.R_add (c := (s.size : Int)) rfl rfl (by rw [Kw.wrap_i64 (by omega)]; omega)) ?_
    refine Kw.WL_v rfl rfl rfl (R_nilboth (k := .i64) (k' := .i64) rfl rfl (by rw [← show ((s.size : Int) = 0) by omega]; rfl) Try.underlying54 F.sz5) ?_
    have hse : s = ⟨#[]⟩ := by rw [← bytes_back s, List.eq_nil_of_length_eq_zero hs0]
    refine Kw.WL_v rfl rfl rfl (R_convnil Try.underlying54 Try.underlying5 Try.underlying9 rfl) ?_
    refine Kw.WL_v rfl rfl rfl (Kw.R_assign rfl) ?_
    refine Kw.WL_v rfl rfl rfl (Kw.R_assign rfl) ?_
    refine Kw.WL_nil ?_
    refine hK8 _ _ ?_; clear hK8 K8
    refine Kw.WC_sub (l' := [(8, .string ⟨#[]⟩), (9, .int .i64 0)]) (Kw.Sub.cons rfl (Kw.Sub.cons rfl Kw.Sub.nil)) ?_
    refine Kw.WC_ret ?_
    rw [hse]
    exact Kw.post_ret2 rfl rfl rfl ⟨rfl, rfl⟩
  ·
    refine Kw.WL_v rfl rfl rfl (Kw.R_move rfl) ?_
    refine Kw.WL_v rfl rfl rfl (Kw.R_move rfl) ?_
    refine Kw.WL_v rfl rfl rfl (Kw.R_move rfl) ?_
    refine Kw.WL_v rfl rfl rfl (Kw.R_move rfl) ?_
    refine Kw.WL_v rfl rfl rfl (Kw.R_add (c := (s.size : Int)) rfl rfl (by rw [Kw.wrap_i64 (by omega)]; omega)) ?_
    refine Kw.WL_v rfl rfl rfl (Kw.R_slicel (i := 0) (j := s.size) (m := capf) (o' := 0) rfl Try.underlying54 F.sz5 ⟨_, rfl⟩ ⟨_, rfl⟩ rfl (by omega) (by omega) (by omega) rfl (by simp)) ?_
    refine Kw.WL_v rfl rfl rfl (Kw.R_convbs (bs := s.data.toList) (r := s) Try.underlying54 Try.underlying5 Try.underlying9 rfl A_gf (size_list s) (fun j hj => by
        have e : curf[0 + j]? = (byV s.data.toList)[j]? := by rw [← htf, List.getElem?_take, if_pos (by omega), Array.getElem?_toList, Nat.zero_add]
        rw [e]; simp only [byV, List.getElem?_map, List.getElem?_eq_getElem hj]; rfl) (bytes_back s)) ?_
    refine Kw.WL_v rfl rfl rfl (Kw.R_assign rfl) ?_
    refine Kw.WL_v rfl rfl rfl (Kw.R_assign rfl) ?_
    refine Kw.WL_nil ?_
    refine hK8 _ _ ?_; clear hK8 K8
    refine Kw.WC_sub (l' := [(8, .string s), (9, .int .i64 0)]) (Kw.Sub.cons rfl (Kw.Sub.cons rfl Kw.Sub.nil)) ?_
    refine Kw.WC_ret ?_
    exact Kw.post_ret2 rfl rfl rfl ⟨rfl, rfl⟩

set_option maxRecDepth 100000 in
set_option maxHeartbeats 4000000 in
theorem reads_c (B : Nat) (N : Nat → Prop) (tb : Nat) (d : Dk) (w : World) (hB : B ≤ w.heap.size) (hN : ∀ k, N k → k < w.heap.size) (R : DK w B N tb d) (hd : d.down = false) (W : WF d) (n : Int) (hn : okI n) (s : ByteArray) (hg : Kw.tget d.F n = some s.data.toList) : Calls Try.prog 15 #[.pointer (some ⟨tb, 0, none⟩), .int .i64 n, .string s] w fun e w' => e = .returned (.bool true) ∧ w' = w := by
  have HB : w = w := rfl
  refine Kw.enter Try.func15 rfl Try.ntmps15 rfl rfl ?_
  refine Kw.WC_seq (fun K1 hK1 => ?_)
  refine Kw.WC_region [some 6] rfl ?_
  refine Kw.WL_v rfl rfl rfl (Kw.R_assign rfl) ?_
  refine Kw.WL_nil ?_
  refine hK1 _ _ ?_; clear hK1 K1
  refine Kw.WC_seq (fun K2 hK2 => ?_)
  refine Kw.WC_region [some 12, some 13, some 14, some 15, some 16, some 11, some 17, some 18, some 7, some 8] rfl ?_
  refine Kw.WL_v rfl rfl rfl (Kw.R_move rfl) ?_
  refine Kw.WL_v rfl rfl rfl (Kw.R_move rfl) ?_
  refine Kw.WL_v rfl rfl rfl (Kw.R_move rfl) ?_
  refine Kw.WL_v rfl rfl rfl (Kw.R_lens Try.underlying9 rfl) ?_
  refine Kw.WL_callc rfl rfl rfl rfl F.cl21 rfl (read_c B N tb d w hB hN R hd W n hn s hg) ?_; intro ww hww; rw [hww]; clear hww ww
  refine Kw.WL_v rfl rfl rfl (Kw.R_move rfl) ?_
  refine Kw.WL_v rfl rfl rfl (Kw.R_extract (v := .string s) rfl rfl) ?_
  refine Kw.WL_v rfl rfl rfl (Kw.R_extract (v := .int .i64 0) rfl rfl) ?_
  refine Kw.WL_v rfl rfl rfl (Kw.R_assign rfl) ?_
  refine Kw.WL_v rfl rfl rfl (Kw.R_assign rfl) ?_
  refine Kw.WL_nil ?_
  refine hK2 _ _ ?_; clear hK2 K2
  refine Kw.WC_sub (l' := [(0, .pointer (some ⟨tb, 0, none⟩)), (1, .int .i64 n), (2, .string s), (7, .string s), (8, .int .i64 0)]) (Kw.Sub.cons rfl (Kw.Sub.cons rfl (Kw.Sub.cons rfl (Kw.Sub.cons rfl (Kw.Sub.cons rfl Kw.Sub.nil))))) ?_
  refine Kw.WC_seq (fun K3 hK3 => ?_)
  refine Kw.WC_region [some 20, some 21, some 22, some 19, some 23, some 24, some 9, some 10] rfl ?_
  refine Kw.WL_v rfl rfl rfl (Kw.R_move rfl) ?_
  refine Kw.WL_v rfl rfl rfl (Kw.R_move rfl) ?_
  refine Kw.WL_callc rfl rfl rfl rfl F.cl22 rfl (by have q := size_c B N tb d w hB hN R hd W n hn _ hg; rw [size_list] at q; exact q) ?_; intro ww hww; rw [hww]; clear hww ww
  refine Kw.WL_v rfl rfl rfl (Kw.R_move rfl) ?_
  refine Kw.WL_v rfl rfl rfl (Kw.R_extract (v := .int .i64 (s.size : Int)) rfl rfl) ?_
  refine Kw.WL_v rfl rfl rfl (Kw.R_extract (v := .int .i64 0) rfl rfl) ?_
  refine Kw.WL_v rfl rfl rfl (Kw.R_assign rfl) ?_
  refine Kw.WL_v rfl rfl rfl (Kw.R_assign rfl) ?_
  refine Kw.WL_nil ?_
  refine hK3 _ _ ?_; clear hK3 K3
  refine Kw.WC_sub (l' := [(2, .string s), (7, .string s), (8, .int .i64 0), (9, .int .i64 (s.size : Int)), (10, .int .i64 0)]) (Kw.Sub.cons rfl (Kw.Sub.cons rfl (Kw.Sub.cons rfl (Kw.Sub.cons rfl (Kw.Sub.cons rfl Kw.Sub.nil))))) ?_
  refine Kw.WC_seq (fun K4 hK4 => ?_)
  refine Kw.WC_region [some 25, some 26, some 27, some 28, some 29, some 30, some 31, some 32, some 33, some 34, some 35, some 36, some 37, some 38, some 39, some 40, some 41, some 6] rfl ?_
  refine Kw.WL_v rfl rfl rfl (Kw.R_move rfl) ?_
  refine Kw.WL_v rfl rfl rfl (Kw.R_eqi (z := true) rfl rfl (decide_eq_true rfl)) ?_
  refine Kw.WL_v rfl rfl rfl (Kw.R_move rfl) ?_
  refine Kw.WL_v rfl rfl rfl (Kw.R_move rfl) ?_
  refine Kw.WL_v rfl rfl rfl (Kw.R_eqi (z := true) rfl rfl (decide_eq_true rfl)) ?_
  refine Kw.WL_v rfl rfl rfl (Kw.R_pickt rfl rfl) ?_
  refine Kw.WL_v rfl rfl rfl (Kw.R_move rfl) ?_
  refine Kw.WL_v rfl rfl rfl (Kw.R_move rfl) ?_
  refine Kw.WL_v rfl rfl rfl (Kw.R_move rfl) ?_
  refine Kw.WL_v rfl rfl rfl (Kw.R_eqs (z := true) rfl rfl (decide_eq_true rfl)) ?_
  refine Kw.WL_v rfl rfl rfl (Kw.R_pickt rfl rfl) ?_
  refine Kw.WL_v rfl rfl rfl (Kw.R_move rfl) ?_
  refine Kw.WL_v rfl rfl rfl (Kw.R_move rfl) ?_
  refine Kw.WL_v rfl rfl rfl (Kw.R_move rfl) ?_
  refine Kw.WL_v rfl rfl rfl (Kw.R_lens Try.underlying9 rfl) ?_
  refine Kw.WL_v rfl rfl rfl (Kw.R_eqi (z := true) rfl rfl (decide_eq_true rfl)) ?_
  refine Kw.WL_v rfl rfl rfl (Kw.R_pickt rfl rfl) ?_
  refine Kw.WL_v rfl rfl rfl (Kw.R_assign rfl) ?_
  refine Kw.WL_nil ?_
  refine hK4 _ _ ?_; clear hK4 K4
  refine Kw.WC_sub (l' := [(6, .bool true)]) (Kw.Sub.cons rfl Kw.Sub.nil) ?_
  refine Kw.WC_ret ?_
  exact Kw.post_ret1 rfl rfl ⟨rfl, rfl⟩

set_option maxRecDepth 100000 in
set_option maxHeartbeats 4000000 in
theorem delete_sunk (B : Nat) (N : Nat → Prop) (tb : Nat) (d : Dk) (w : World) (hB : B ≤ w.heap.size) (hN : ∀ k, N k → k < w.heap.size) (R : DK w B N tb d) (hd : d.down = false) (W : WF d) (hl : -1000000000 ≤ d.left ∧ d.left ≤ 1000000000) (hf : d.fails = true) (hlt : d.left - 1 < 0) (n : Int) (hn : okI n) (s0 : List UInt8) (hg : Kw.tget d.F n = some s0) : Calls Try.prog 17 #[.pointer (some ⟨tb, 0, none⟩), .int .i64 n] w fun e w' => e = .returned (.int .i64 61) ∧ DK w' B N tb (sinkD (tickD d)) ∧ Kw.Mut (Mine B N) w w' := by
  have R0 := R
  obtain ⟨Fl, Q, cap, down, starts, fails, left, keep⟩ := d
  dsimp only at hd
  dsimp only at hf
  subst hd hf
  obtain ⟨mb, lv, E, hE, A_tb0, A_mb, O_lv, NE_mb_tb, D_lv_tb, D_lv_mb, FL, M_tb, M_mb, M_lv⟩ := R
  have A_tb : Kw.At w tb #[.map (some mb), lv, .int .i64 cap, .bool false, .int .i64 starts, .bool true, .int .i64 left, .int .i64 keep] 52 := A_tb0
  clear A_tb0
  replace hE : fD E = Fl := hE
  replace O_lv : Kw.Own w B 56 2 lv Q.length (flatQ Q) := O_lv
  have hnd : (E.map (·.1)).Nodup := by have := A_mb.nodup KI3; rwa [fT_fst] at this
  dsimp only at hl hg hlt
  obtain ⟨fv, hgE, hgf⟩ := get_file hE hg
  obtain ⟨O_fv, hfq⟩ := FL.get hgE
  have D_fv_tb : Kw.ob fv ≠ some tb := fun h => hfq tb h (.inr (.inl rfl))
  have D_fv_mb : Kw.ob fv ≠ some mb := fun h => hfq mb h (.inr (.inr (.inl rfl)))
  have E_lv_fv : ∀ g, Kw.ob lv = some g → Kw.ob fv ≠ some g := fun g h1 h2 => hfq g h2 (.inr (.inr (.inr h1)))
  have E_fv_lv : ∀ g, Kw.ob fv = some g → Kw.ob lv ≠ some g := fun g h1 h2 => hfq g h1 (.inr (.inr (.inr h2)))
  have hls0 := filesLen_get hg
  have HB : Kw.Mut (fun k => k = tb ∨ k = mb) w w := Kw.Mut.refl _ _
  refine Kw.enter Try.func17 rfl Try.ntmps17 rfl rfl ?_
  refine Kw.WC_seq (fun K1 hK1 => ?_)
  refine Kw.WC_region [some 4] rfl ?_
  refine Kw.WL_v rfl rfl rfl (Kw.R_assign rfl) ?_
  refine Kw.WL_nil ?_
  refine hK1 _ _ ?_; clear hK1 K1
  refine Kw.WC_seq (fun K2 hK2 => ?_)
  refine Kw.WC_region [some 6, some 7, some 8, some 5] rfl ?_
  refine Kw.WL_v rfl rfl rfl (Kw.R_move rfl) ?_
  refine Kw.WL_v rfl rfl rfl (Kw.R_move rfl) ?_
  refine Kw.WL_callc rfl rfl rfl rfl F.cl25 rfl (has_yes tb mb lv cap starts true left keep _ A_tb (fT E) A_mb n hn fv hgf) ?_; intro ww hww; rw [hww]; clear hww ww
  refine Kw.WL_v rfl rfl rfl (Kw.R_assign rfl) ?_
  refine Kw.WL_nil ?_
  refine hK2 _ _ ?_; clear hK2 K2
  refine Kw.WC_seq (fun K3 hK3 => ?_)
  refine Kw.WC_block ?_
  refine Kw.WC_seq (fun K4 hK4 => ?_)
  refine Kw.WC_region [some 10, some 11, some 9] rfl ?_
  refine Kw.WL_v rfl rfl rfl (Kw.R_move rfl) ?_
  refine Kw.WL_v rfl rfl rfl (Kw.R_nei (z := false) rfl rfl (decide_eq_true (by omega))) ?_
  refine Kw.WL_v rfl rfl rfl (Kw.R_assign rfl) ?_
  refine Kw.WL_nil ?_
  refine hK4 _ _ ?_; clear hK4 K4
  refine Kw.WC_sub (l' := [(0, .pointer (some ⟨tb, 0, none⟩)), (1, .int .i64 n), (5, .int .i64 0), (9, .bool false)]) (Kw.Sub.cons rfl (Kw.Sub.cons rfl (Kw.Sub.cons rfl (Kw.Sub.cons rfl Kw.Sub.nil)))) ?_
  refine Kw.WC_false rfl ?_
  refine Kw.WC_seq (fun K5 hK5 => ?_)
  refine Kw.WC_region [some 14, some 15, some 13] rfl ?_
  refine Kw.WL_v rfl rfl rfl (Kw.R_move rfl) ?_
  have hsk := sinks_yes tb mb lv cap false starts left keep w A_tb hl; rw [decide_eq_true hlt] at hsk
  refine Kw.WL_callc rfl rfl rfl rfl F.cl26 rfl hsk ?_; rintro w6 ⟨B_tb, hm⟩; clear hsk
  replace A_mb := A_mb.mut hm (NE_mb_tb)
  replace O_lv := O_lv.mut hm (fun g hg e => D_lv_tb (by rw [hg, e]))
  replace O_fv := O_fv.mut hm (fun g hg e => D_fv_tb (by rw [hg, e]))
  clear A_tb; have A_tb := B_tb; clear B_tb; replace HB := HB.then_ hm (fun k hk => .inl (.inl hk)); clear hm
  refine Kw.WL_v rfl rfl rfl (Kw.R_assign rfl) ?_
  refine Kw.WL_nil ?_
  refine hK5 _ _ ?_; clear hK5 K5
  refine Kw.WC_true rfl ?_
  refine Kw.WC_seq (fun K7 hK7 => ?_)
  refine Kw.WC_region [some 16, some 17, some 4] rfl ?_
  refine Kw.WL_v rfl rfl rfl (Kw.R_move rfl) ?_
  have R2 : DK w6 B N tb ⟨Fl, Q, cap, false, starts, true, left - 1, keep⟩ := ⟨mb, lv, E, hE, A_tb, A_mb, O_lv, NE_mb_tb, D_lv_tb, D_lv_mb, FL.mut HB (fun k hk => by rcases hk with h | h; exact .inr (.inl h); exact .inr (.inr (.inl h))), M_tb, M_mb, M_lv⟩
  have hB1 : B ≤ w6.heap.size := Nat.le_trans hB HB.size; have hN1 : ∀ k, N k → k < w6.heap.size := fun k hk => Nat.lt_of_lt_of_le (hN k hk) HB.size
  refine Kw.WL_callc rfl rfl rfl rfl F.cl27 rfl (sink_c B N tb _ _ hB1 hN1 R2 rfl W.tick) ?_; rintro w9 ⟨R3, hm⟩
  replace HB := (HB.mono (fun k hk => by rcases hk with h | h; rw [h]; exact M_tb; rw [h]; exact M_mb)).then_ hm (fun k hk => .inl hk)
  clear A_tb A_mb O_lv O_fv R2 hm
  refine Kw.WL_sub (l' := [(17, .int .i64 61)]) (Kw.Sub.cons rfl Kw.Sub.nil) ?_
  refine Kw.WL_v rfl rfl rfl (Kw.R_assign rfl) ?_
  refine Kw.WL_nil ?_
  refine hK7 _ _ ?_; clear hK7 K7
  refine Kw.WC_ret ?_
  refine Kw.QR_block ?_
  refine Kw.QR_then ?_; clear hK3 K3
  rw [show sinkD (tickD ⟨Fl, Q, cap, false, starts, true, left, keep⟩) = sinkD ⟨Fl, Q, cap, false, starts, true, left - 1, keep⟩ by simp [tickD]]
  exact Kw.post_ret1 rfl rfl ⟨rfl, R3, HB⟩
set_option maxRecDepth 100000 in
set_option maxHeartbeats 4000000 in
theorem truncate_sunk (B : Nat) (N : Nat → Prop) (tb : Nat) (d : Dk) (w : World) (hB : B ≤ w.heap.size) (hN : ∀ k, N k → k < w.heap.size) (R : DK w B N tb d) (hd : d.down = false) (W : WF d) (hl : -1000000000 ≤ d.left ∧ d.left ≤ 1000000000) (hf : d.fails = true) (hlt : d.left - 1 < 0) (n : Int) (hn : okI n) (s0 : List UInt8) (hg : Kw.tget d.F n = some s0) (m : Int) (hm0 : 0 ≤ m ∧ m ≤ s0.length) : Calls Try.prog 18 #[.pointer (some ⟨tb, 0, none⟩), .int .i64 n, .int .i64 m] w fun e w' => e = .returned (.int .i64 61) ∧ DK w' B N tb (sinkD (tickD d)) ∧ Kw.Mut (Mine B N) w w' := by
  have R0 := R
  obtain ⟨Fl, Q, cap, down, starts, fails, left, keep⟩ := d
  dsimp only at hd
  dsimp only at hf
  subst hd hf
  obtain ⟨mb, lv, E, hE, A_tb0, A_mb, O_lv, NE_mb_tb, D_lv_tb, D_lv_mb, FL, M_tb, M_mb, M_lv⟩ := R
  have A_tb : Kw.At w tb #[.map (some mb), lv, .int .i64 cap, .bool false, .int .i64 starts, .bool true, .int .i64 left, .int .i64 keep] 52 := A_tb0
  clear A_tb0
  replace hE : fD E = Fl := hE
  replace O_lv : Kw.Own w B 56 2 lv Q.length (flatQ Q) := O_lv
  have hnd : (E.map (·.1)).Nodup := by have := A_mb.nodup KI3; rwa [fT_fst] at this
  dsimp only at hl hg hlt
  obtain ⟨fv, hgE, hgf⟩ := get_file hE hg
  obtain ⟨O_fv, hfq⟩ := FL.get hgE
  have D_fv_tb : Kw.ob fv ≠ some tb := fun h => hfq tb h (.inr (.inl rfl))
  have D_fv_mb : Kw.ob fv ≠ some mb := fun h => hfq mb h (.inr (.inr (.inl rfl)))
  have E_lv_fv : ∀ g, Kw.ob lv = some g → Kw.ob fv ≠ some g := fun g h1 h2 => hfq g h2 (.inr (.inr (.inr h1)))
  have E_fv_lv : ∀ g, Kw.ob fv = some g → Kw.ob lv ≠ some g := fun g h1 h2 => hfq g h1 (.inr (.inr (.inr h2)))
  have hls0 := filesLen_get hg
  have HB : Kw.Mut (fun k => k = tb ∨ k = mb) w w := Kw.Mut.refl _ _
  refine Kw.enter Try.func18 rfl Try.ntmps18 rfl rfl ?_
  refine Kw.WC_seq (fun K1 hK1 => ?_)
  refine Kw.WC_region [some 6] rfl ?_
  refine Kw.WL_v rfl rfl rfl (Kw.R_assign rfl) ?_
  refine Kw.WL_nil ?_
  refine hK1 _ _ ?_; clear hK1 K1
  refine Kw.WC_seq (fun K2 hK2 => ?_)
  refine Kw.WC_region [some 9, some 10, some 11, some 7] rfl ?_
  refine Kw.WL_v rfl rfl rfl (Kw.R_move rfl) ?_
  refine Kw.WL_v rfl rfl rfl (Kw.R_move rfl) ?_
  refine Kw.WL_callc rfl rfl rfl rfl F.cl25 rfl (has_yes tb mb lv cap starts true left keep _ A_tb (fT E) A_mb n hn fv hgf) ?_; intro ww hww; rw [hww]; clear hww ww
  refine Kw.WL_v rfl rfl rfl (Kw.R_assign rfl) ?_
  refine Kw.WL_nil ?_
  refine hK2 _ _ ?_; clear hK2 K2
  refine Kw.WC_seq (fun K3 hK3 => ?_)
  refine Kw.WC_block ?_
  refine Kw.WC_seq (fun K4 hK4 => ?_)
  refine Kw.WC_region [some 13, some 14, some 12] rfl ?_
  refine Kw.WL_v rfl rfl rfl (Kw.R_move rfl) ?_
  refine Kw.WL_v rfl rfl rfl (Kw.R_nei (z := false) rfl rfl (decide_eq_true (by omega))) ?_
  refine Kw.WL_v rfl rfl rfl (Kw.R_assign rfl) ?_
  refine Kw.WL_nil ?_
  refine hK4 _ _ ?_; clear hK4 K4
  refine Kw.WC_sub (l' := [(0, .pointer (some ⟨tb, 0, none⟩)), (1, .int .i64 n), (2, .int .i64 m), (7, .int .i64 0), (12, .bool false)]) (Kw.Sub.cons rfl (Kw.Sub.cons rfl (Kw.Sub.cons rfl (Kw.Sub.cons rfl (Kw.Sub.cons rfl Kw.Sub.nil))))) ?_
  refine Kw.WC_false rfl ?_
  refine Kw.WC_seq (fun K5 hK5 => ?_)
  refine Kw.WC_region [some 17, some 18, some 19, some 20, some 21, some 22, some 23, some 24, some 25, some 26, some 27, some 28, some 29, some 16] rfl ?_
  refine Kw.WL_v rfl rfl rfl (Kw.R_move rfl) ?_
  refine Kw.WL_v rfl rfl rfl (Kw.R_lss (z := false) rfl rfl (decide_eq_false (by omega))) ?_
  refine Kw.WL_v rfl rfl rfl (Kw.R_move rfl) ?_
  refine Kw.WL_v rfl rfl rfl (Kw.R_move rfl) ?_
  refine Kw.WL_v rfl rfl rfl (Kw.R_move rfl) ?_
  refine Kw.WL_v rfl rfl rfl (Kw.R_nilok rfl) ?_
  refine Kw.WL_v rfl rfl rfl (Kw.R_fieldAddr (o' := 0) (k := 0) rfl Try.underlying52 rfl F.sz49 rfl) ?_
  refine Kw.WL_v rfl rfl rfl (Kw.R_load1 (v := .map (some mb)) rfl Try.underlying49 rfl A_tb rfl) ?_
  refine Kw.WL_v rfl rfl rfl (Kw.R_move rfl) ?_
  refine Kw.WL_v rfl rfl rfl (Kw.R_lookup (v := fv) KI3 rfl rfl Try.underlying49 F.ze54 A_mb hn (by rw [hgf]; try rfl)) ?_
  refine Kw.WL_v rfl rfl rfl (Kw.R_leno Try.underlying54 rfl O_fv) ?_
  refine Kw.WL_v rfl rfl rfl (Kw.R_gtr (z := false) rfl rfl (decide_eq_false (by omega))) ?_
  refine Kw.WL_v rfl rfl rfl (Kw.R_pickf rfl rfl) ?_
  refine Kw.WL_v rfl rfl rfl (Kw.R_assign rfl) ?_
  refine Kw.WL_nil ?_
  refine hK5 _ _ ?_; clear hK5 K5
  refine Kw.WC_sub (l' := [(0, .pointer (some ⟨tb, 0, none⟩)), (1, .int .i64 n), (2, .int .i64 m), (16, .bool false)]) (Kw.Sub.cons rfl (Kw.Sub.cons rfl (Kw.Sub.cons rfl (Kw.Sub.cons rfl Kw.Sub.nil)))) ?_
  refine Kw.WC_false rfl ?_
  refine Kw.WC_seq (fun K6 hK6 => ?_)
  refine Kw.WC_region [some 31, some 32, some 30] rfl ?_
  refine Kw.WL_v rfl rfl rfl (Kw.R_move rfl) ?_
  have hsk := sinks_yes tb mb lv cap false starts left keep w A_tb hl; rw [decide_eq_true hlt] at hsk
  refine Kw.WL_callc rfl rfl rfl rfl F.cl26 rfl hsk ?_; rintro w7 ⟨B_tb, hm⟩; clear hsk
  replace A_mb := A_mb.mut hm (NE_mb_tb)
  replace O_lv := O_lv.mut hm (fun g hg e => D_lv_tb (by rw [hg, e]))
  replace O_fv := O_fv.mut hm (fun g hg e => D_fv_tb (by rw [hg, e]))
  clear A_tb; have A_tb := B_tb; clear B_tb; replace HB := HB.then_ hm (fun k hk => .inl (.inl hk)); clear hm
  refine Kw.WL_v rfl rfl rfl (Kw.R_assign rfl) ?_
  refine Kw.WL_nil ?_
  refine hK6 _ _ ?_; clear hK6 K6
  refine Kw.WC_true rfl ?_
  refine Kw.WC_seq (fun K8 hK8 => ?_)
  refine Kw.WC_region [some 33, some 34, some 6] rfl ?_
  refine Kw.WL_v rfl rfl rfl (Kw.R_move rfl) ?_
  have R2 : DK w7 B N tb ⟨Fl, Q, cap, false, starts, true, left - 1, keep⟩ := ⟨mb, lv, E, hE, A_tb, A_mb, O_lv, NE_mb_tb, D_lv_tb, D_lv_mb, FL.mut HB (fun k hk => by rcases hk with h | h; exact .inr (.inl h); exact .inr (.inr (.inl h))), M_tb, M_mb, M_lv⟩
  have hB1 : B ≤ w7.heap.size := Nat.le_trans hB HB.size; have hN1 : ∀ k, N k → k < w7.heap.size := fun k hk => Nat.lt_of_lt_of_le (hN k hk) HB.size
  refine Kw.WL_callc rfl rfl rfl rfl F.cl27 rfl (sink_c B N tb _ _ hB1 hN1 R2 rfl W.tick) ?_; rintro w9 ⟨R3, hm⟩
  replace HB := (HB.mono (fun k hk => by rcases hk with h | h; rw [h]; exact M_tb; rw [h]; exact M_mb)).then_ hm (fun k hk => .inl hk)
  clear A_tb A_mb O_lv O_fv R2 hm
  refine Kw.WL_sub (l' := [(34, .int .i64 61)]) (Kw.Sub.cons rfl Kw.Sub.nil) ?_
  refine Kw.WL_v rfl rfl rfl (Kw.R_assign rfl) ?_
  refine Kw.WL_nil ?_
  refine hK8 _ _ ?_; clear hK8 K8
  refine Kw.WC_ret ?_
  refine Kw.QR_block ?_
  refine Kw.QR_then ?_; clear hK3 K3
  rw [show sinkD (tickD ⟨Fl, Q, cap, false, starts, true, left, keep⟩) = sinkD ⟨Fl, Q, cap, false, starts, true, left - 1, keep⟩ by simp [tickD]]
  exact Kw.post_ret1 rfl rfl ⟨rfl, R3, HB⟩
end Go.Proofs.Ytcmgeadakncgmaa.Fn
