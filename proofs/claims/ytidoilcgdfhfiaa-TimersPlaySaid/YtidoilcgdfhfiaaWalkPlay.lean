/- TimersPlay answers true. -/
import Derived.Test.YtidoilcgdfhfiaaTm10
namespace Go.Proofs.Ytidoilcgdfhfiaa.Fn
open Go Go.Proofs Go.RowKit
set_option linter.unusedVariables false
set_option linter.unusedSimpArgs false
section
open Kw
variable {P : Program} {l : Kw.Env} {w : World} {D : Option Tmp} {T : TypeId} {S : String} {F : Array Edge} {g : Option (Nat × Bool)}
theorem R_loadcs {t : TypeId} {x : Operand} {d : TypeDesc} {b o : Nat} {ds : Array Value} (hx : Kw.ev l x = some (.pointer (some ⟨b, o, none⟩))) (hu : P.underlying t = some d) (hd : Kw.aggD d = true)
    (hs : Kw.sizeIs P t ds.size) (hc : ∀ j v, ds[j]? = some v → w.cell? ⟨b, o + j, none⟩ = some v) : Kw.Runs P l ⟨D, .load t x, T, S, F, g⟩ w (.agg ds) w := fun ρ h => by
  show (do pure (Next.value (← Instr.loadAt t (ρ x))) : Sem Next).run P w = _
  rw [h x _ hx]
  refine Kw.run_value ?_
  simp only [Instr.loadAt, Instr.sureAddr, pure_bind]
  have h1 := Kw.run_isAgg hu w
  rw [hd] at h1
  have h3 := run_loadCells_list (P := P) w ⟨b, o, none⟩ ds.toList (fun j v hv => by
    rw [Kw.add_off]; exact hc j v (by rw [← Array.getElem?_toList]; exact hv))
  rw [Array.length_toList] at h3
  simp only [loadVar, Sem.run_bind, h1, Result.andThen_ok, if_true, Kw.run_sizeOf hs w, h3, Array.toArray_toList]
  simp
end
/-- An act: what is done, the key, when. -/
abbrev ActT := Int × (Int × Int) × Int
def okAct (x : ActT) : Prop := (0 ≤ x.1 ∧ x.1 ≤ 255) ∧ okK x.2.1
def actCells (x : ActT) : Array Value := #[.int .u8 x.1, .int .i64 x.2.1.1, .int .i64 x.2.1.2, .int .i64 x.2.2]
def RdA (w : World) (a : Option Addr) (L : List ActT) : Prop := L = [] ∨ ∃ g o, a = some ⟨g, o, none⟩ ∧ ∀ (i : Nat) (h : i < L.length), g < w.heap.size ∧ ∀ (j : Nat) (v : Value), (actCells (L[i]'h))[j]? = some v → w.cell? ⟨g, o + i * 4 + j, none⟩ = some v
theorem RdT.mut {w w' : World} {v : Value} {R T : List ((Int × Int) × Int)} {mb : Nat} (h : RdT w v R) (m : Kw.Mut (fun k => k = mb) w w') (hA : TM w mb T) : RdT w' v R := by
  obtain ⟨a, cap, rfl, h1, h2, h3⟩ := h
  refine ⟨a, cap, rfl, h1, h2, ?_⟩
  rcases h3 with h3 | ⟨g, o, cur, rfl, hG, hc⟩
  · exact .inl h3
  · refine .inr ⟨g, o, cur, rfl, hG.mut m (fun e => ?_), hc⟩
    subst e
    obtain ⟨es, clock, h4, _⟩ := hA
    obtain ⟨fr, h5, _⟩ := hG
    rw [h4] at h5
    cases h5
theorem Tells.ok {w : World} {mb : Nat} {T R : List ((Int × Int) × Int)} (h : Tells T R) (hA : TM w mb T) : ∀ p ∈ R, okK p.1 := fun p hp => by
  obtain ⟨es, clock, _, _, _, hok⟩ := hA
  have h1 := Kw.mem_tget h.nodup hp
  rw [h.get] at h1
  exact hok _ (Kw.tget_mem h1)
theorem take_ok {R : List ((Int × Int) × Int)} (h : ∀ p ∈ R, okK p.1) (j : Nat) : ∀ k ∈ (R.take j).map (·.1), okK k := fun k hk => by
  obtain ⟨p, hp, rfl⟩ := List.mem_map.1 hk
  exact h p (List.mem_of_mem_take hp)
theorem tdel_len (T : List ((Int × Int) × Int)) (a : Int × Int) : (Kw.tdel T a).length ≤ T.length := (Kw.tdel_sub T a).length_le

set_option maxRecDepth 100000 in
set_option maxHeartbeats 4000000 in
theorem TimersPlay_c (a1 : Option Addr) (cap1 : Nat) (L : List ActT) (hA : ∀ x ∈ L, okAct x) (w : World) (hR1 : RdA w a1 L) : Calls Try.prog 4 #[.slice a1 L.length cap1] w fun e w' => e = .returned (.bool true) ∧ Below w.heap.size w w' := by
  have HB : Below w.heap.size w w := Below.refl _ _
  have HC : Below w.heap.size w w := Below.refl _ _
  refine Kw.enter Try.func4 rfl Try.ntmps4 rfl rfl ?_
  refine Kw.WC_seq (fun K1 hK1 => ?_)
  refine Kw.WC_region [some 2] rfl ?_
  refine Kw.WL_v rfl rfl rfl (Kw.R_assign rfl) ?_
  refine Kw.WL_nil ?_
  refine hK1 _ _ ?_; clear hK1 K1
  refine Kw.WC_seq (fun K2 hK2 => ?_)
  refine Kw.WC_seq (fun K3 hK3 => ?_)
  refine Kw.WC_region [some 16, some 17, some 18] rfl ?_
  refine Kw.WL_v rfl rfl rfl (Kw.R_move rfl) ?_
  refine Kw.WL_v rfl rfl rfl (Kw.R_lenl (n := L.length) Try.underlying37 rfl) ?_
  by_cases c4 : (200 : Int) < (L.length : Int)
  ·
    refine Kw.WL_v rfl rfl rfl (Kw.R_gtr (z := true) rfl rfl (decide_eq_true c4)) ?_
    refine Kw.WL_nil ?_
    refine hK3 _ _ ?_; clear hK3 K3
    refine Kw.WC_true rfl ?_
    refine Kw.WC_seq (fun K5 hK5 => ?_)
    refine Kw.WC_region [some 19, some 2] rfl ?_
    refine Kw.WL_callc rfl rfl rfl rfl F.cl6 rfl (rang_c _) ?_; intro w6 bw6
    replace HB := Kw.Below.then HB (Nat.le_refl _) bw6; replace HC := Kw.Below.then HC (Nat.le_refl _) bw6
    clear bw6
    refine Kw.WL_v rfl rfl rfl (Kw.R_assign rfl) ?_
    refine Kw.WL_nil ?_
    refine hK5 _ _ ?_; clear hK5 K5
    refine Kw.WC_ret ?_
    refine Kw.QR_then ?_; clear hK2 K2
    exact Kw.post_ret1 rfl rfl ⟨rfl, HB⟩
  ·
    refine Kw.WL_v rfl rfl rfl (Kw.R_gtr (z := false) rfl rfl (decide_eq_false c4)) ?_
    refine Kw.WL_nil ?_
    refine hK3 _ _ ?_; clear hK3 K3
    refine Kw.WC_false rfl ?_
    refine Kw.WC_skip ?_
    refine hK2 _ _ ?_; clear hK2 K2
    refine Kw.WC_seq (fun K7 hK7 => ?_)
    refine Kw.WC_region [some 20, some 3] rfl ?_
    refine Kw.WL_call rfl rfl rfl rfl F.cl7 rfl (new_c _) ?_; rintro _ w8 ⟨⟨tb, mb, rfl, L_mb_tb, hmbge, A_tb, A_mb⟩, bw8⟩
    have G_mb : w.heap.size ≤ mb := Nat.le_trans HB.size hmbge
    have G_tb : w.heap.size ≤ tb := by omega
    replace HB := Kw.Below.then HB (Nat.le_refl _) bw8; replace HC := Kw.Below.then HC (Nat.le_refl _) bw8; clear bw8 hmbge
    refine Kw.WL_v rfl rfl rfl (Kw.R_assign rfl) ?_
    refine Kw.WL_nil ?_
    refine hK7 _ _ ?_; clear hK7 K7
    refine Kw.WC_seq (fun K9 hK9 => ?_)
    refine Kw.WC_region [some 4] rfl ?_
    refine Kw.WL_v rfl rfl rfl (Kw.R_assign rfl) ?_
    refine Kw.WL_nil ?_
    refine hK9 _ _ ?_; clear hK9 K9
    refine Kw.WC_seq (fun K10 hK10 => ?_)
    refine Kw.WC_seq (fun K11 hK11 => ?_)
    refine Kw.WC_region [some 5] rfl ?_
    refine Kw.WL_v rfl rfl rfl (Kw.R_assign rfl) ?_
    refine Kw.WL_nil ?_
    refine hK11 _ _ ?_; clear hK11 K11
    refine Kw.WC_block ?_
    clear HC
    refine Kw.WC_loop (ι := Nat × List ((Int × Int) × Int) × List ((Int × Int) × Int) × Value) (fun (q : Nat × List ((Int × Int) × Int) × List ((Int × Int) × Int) × Value) (ww : World) => match q with | ⟨i, T, R, rv⟩ => (i ≤ L.length ∧ T.length ≤ i ∧ R.length ≤ i ∧ Tells T R ∧ RdT ww rv R) ∧ TM ww mb T ∧ Kw.At ww tb #[.map (some mb)] 52 ∧ Below w.heap.size w ww) (fun (q : Nat × List ((Int × Int) × Int) × List ((Int × Int) × Int) × Value) => match q with | ⟨i, T, R, rv⟩ => [(0, .slice a1 L.length cap1), (3, .pointer (some ⟨tb, 0, none⟩)), (4, rv), (5, .int .i64 (i : Int))]) (fun (q : Nat × List ((Int × Int) × Int) × List ((Int × Int) × Int) × Value) => match q with | ⟨i, T, R, rv⟩ => L.length - i) (0, [], [], .slice none 0 0) ⟨⟨Nat.zero_le _, Nat.le_refl _, Nat.le_refl _, Tells.nil, none, 0, rfl, Nat.le_refl _, by unfold maxLen; omega, .inl rfl⟩, A_mb, A_tb, HB⟩ (Kw.Sub.cons rfl (Kw.Sub.cons rfl (Kw.Sub.cons rfl (Kw.Sub.cons rfl Kw.Sub.nil)))) ?_
    clear A_mb
    clear A_tb
    clear HB
    rintro ⟨i, T, R, rv⟩ w12 ⟨⟨hi, hTl, hRl, hTe, R_rv⟩, A_mb, A_tb, HB⟩
    dsimp only at *
    have HC : Below w12.heap.size w12 w12 := Below.refl _ _; have hokR := hTe.ok A_mb; have hnd := A_mb.nodup K29
    refine Kw.WC_seq (fun K13 hK13 => ?_)
    refine Kw.WC_seq (fun K14 hK14 => ?_)
    refine Kw.WC_region [some 21, some 22, some 23, some 24] rfl ?_
    refine Kw.WL_v rfl rfl rfl (Kw.R_move rfl) ?_
    refine Kw.WL_v rfl rfl rfl (Kw.R_move rfl) ?_
    refine Kw.WL_v rfl rfl rfl (Kw.R_lenl (n := L.length) Try.underlying37 rfl) ?_
    by_cases c15 : ((i : Int) : Int) < (L.length : Int)
    ·
      refine Kw.WL_v rfl rfl rfl (Kw.R_lss (z := true) rfl rfl (decide_eq_true c15)) ?_
      refine Kw.WL_nil ?_
      refine hK14 _ _ ?_; clear hK14 K14
      refine Kw.WC_true rfl ?_
      refine Kw.WC_skip ?_
      refine hK13 _ _ ?_; clear hK13 K13
      refine Kw.WC_seq (fun K16 hK16 => ?_)
      refine Kw.WC_block ?_
      refine Kw.WC_seq (fun K17 hK17 => ?_)
      refine Kw.WC_region [some 27, some 28, some 29, some 30, some 6, none] rfl ?_
      refine Kw.WL_v rfl rfl rfl (Kw.R_move rfl) ?_
      refine Kw.WL_v rfl rfl rfl (Kw.R_move rfl) ?_
      have hi2 : i < L.length := by omega
      obtain ⟨y, hy⟩ : ∃ y, y = L[i]'hi2 := ⟨_, rfl⟩
      have hya : okAct y := hA y (by rw [hy]; exact List.getElem_mem hi2)
      rcases hR1 with rfl | ⟨g1, o1, rfl, hc1⟩
      · exact absurd hi2 (Nat.not_lt_zero _)
      obtain ⟨lt1, hc1⟩ := hc1 i hi2; rw [← hy] at hc1; clear hy
      obtain ⟨q, k, a⟩ := y
      obtain ⟨hq, hk⟩ := hya
      dsimp only at hq hk
      refine Kw.WL_v rfl rfl rfl (Kw.R_indexAddrS (i := i) (b := g1) (o := o1) (o' := o1 + i * 4) rfl rfl Try.underlying37 F.sz40 (by omega) (by omega)) ?_
      refine Kw.WL_v rfl rfl rfl (R_loadcs (ds := actCells (q, k, a)) rfl Try.underlying40 rfl (by exact F.sz40) (fun j v hv => (HB.cell (p := ⟨g1, o1 + i * 4 + j, none⟩) lt1).trans (hc1 j v hv))) ?_
      refine Kw.WL_alloc rfl rfl F.zr40 ?_; intro gx w18 N_gx
      have L_mb_gx : mb < gx := (by rw [N_gx.num]; exact A_mb.lt); replace A_mb := A_mb.new N_gx
      have L_tb_gx := N_gx.ne A_tb; replace A_tb := N_gx.keep A_tb
      have A_gx : Kw.At w18 gx F.Z40 40 := N_gx.at_
      have Gc_gx := N_gx.ge HC (Nat.le_refl _); replace HC := N_gx.below HC (Nat.le_refl _); have G_gx := N_gx.ge HB (Nat.le_refl _); replace HB := N_gx.below HB (Nat.le_refl _); clear N_gx
      refine Kw.WL_storeW rfl rfl rfl (by exact F.sz40) A_gx rfl rfl ?_; intro w19 M_gx
      replace A_mb := A_mb.chg M_gx.chg (Nat.ne_of_lt L_mb_gx)
      replace A_tb := M_gx.keep A_tb (Nat.ne_of_lt L_tb_gx)
      replace A_gx : Kw.At w19 gx #[.int .u8 q, .int .i64 k.1, .int .i64 k.2, .int .i64 a] 40 := M_gx.at_ A_gx
      replace HC := M_gx.below HC Gc_gx; replace HB := M_gx.below HB G_gx; clear M_gx
      refine Kw.WL_nil ?_
      refine hK17 _ _ ?_; clear hK17 K17
      refine Kw.WC_sub (l' := [(0, .slice (some ⟨g1, o1, none⟩) L.length cap1), (3, .pointer (some ⟨tb, 0, none⟩)), (4, rv), (5, .int .i64 (i : Int)), (6, .pointer (some ⟨gx, 0, none⟩))]) (Kw.Sub.cons rfl (Kw.Sub.cons rfl (Kw.Sub.cons rfl (Kw.Sub.cons rfl (Kw.Sub.cons rfl Kw.Sub.nil))))) ?_
      refine Kw.WC_seq (fun K20 hK20 => ?_)
      refine Kw.WC_seq (fun K21 hK21 => ?_)
      refine Kw.WC_region [some 31, some 32, some 33] rfl ?_
      refine Kw.WL_v rfl rfl rfl (Kw.R_fieldAddr (o' := 0) (k := 0) rfl Try.underlying40 rfl F.sz5 rfl) ?_
      refine Kw.WL_v rfl rfl rfl (Kw.R_load1 rfl Try.underlying5 rfl A_gx rfl) ?_
      obtain ⟨m8, hm8⟩ : ∃ x : Int, x = q % 8 := ⟨_, rfl⟩
      refine Kw.WL_v rfl rfl rfl (Kw.R_rem (c := m8) rfl rfl (by omega) (by rw [Kw.tmod_pos (by omega)]; rw [hm8])) ?_
      refine Kw.WL_nil ?_
      refine hK21 _ _ ?_; clear hK21 K21
      refine Kw.WC_block ?_
      refine Kw.WC_seq (fun K22 hK22 => ?_)
      refine Kw.WC_region [some 51, some 50] rfl ?_
      by_cases c23 : (m8 : Int) = 3
      ·
        refine Kw.WL_v rfl rfl rfl (Kw.R_eqi (z := true) rfl rfl (decide_eq_true c23)) ?_
        refine Kw.WL_v rfl rfl rfl (Kw.R_assign rfl) ?_
        refine Kw.WL_nil ?_
        refine hK22 _ _ ?_; clear hK22 K22
        refine Kw.WC_true rfl ?_
        refine Kw.WC_seq (fun K24 hK24 => ?_)
        refine Kw.WC_region [some 52, some 53, some 54, some 55] rfl ?_
        refine Kw.WL_v rfl rfl rfl (Kw.R_move rfl) ?_
        refine Kw.WL_v rfl rfl rfl (Kw.R_fieldAddr (o' := 1) (k := 1) rfl Try.underlying40 rfl F.sz29 rfl) ?_
        refine Kw.WL_v rfl rfl rfl (Kw.R_loadN (ds := #[.int .i64 k.1, .int .i64 k.2]) rfl Try.underlying29 rfl F.sz29 A_gx (by show _ ≤ 4; decide) (rfl)) ?_
        replace R_rv := R_rv.call HC
        clear HC; have HC : Below w19.heap.size w19 w19 := Below.refl _ _
        have A_mbO := A_mb
        refine Kw.WL_callc rfl rfl rfl rfl F.cl11 rfl (clear_c k hk tb mb T _ A_tb A_mb L_mb_tb) ?_; rintro w25 ⟨B_tb, B_mb, hmut⟩
        clear A_tb A_mb; have A_tb := B_tb; have A_mb : TM w25 mb (Kw.tdel T k) := B_mb; clear B_tb B_mb
        replace A_gx := A_gx.mut hmut (fun e => absurd e (Nat.ne_of_gt L_mb_gx))
        replace R_rv := R_rv.mut hmut A_mbO; clear A_mbO
        replace HB := Kw.Mut.below HB (Nat.le_refl _) hmut (fun k hk => by rw [hk]; exact G_mb); clear hmut
        clear HC; have HC : Below w25.heap.size w25 w25 := Below.refl _ _
        refine Kw.WL_nil ?_
        refine hK24 _ _ ?_; clear hK24 K24
        refine Kw.WC_sub (l' := [(0, .slice (some ⟨g1, o1, none⟩) L.length cap1), (3, .pointer (some ⟨tb, 0, none⟩)), (4, rv), (5, .int .i64 (i : Int)), (6, .pointer (some ⟨gx, 0, none⟩))]) (Kw.Sub.cons rfl (Kw.Sub.cons rfl (Kw.Sub.cons rfl (Kw.Sub.cons rfl (Kw.Sub.cons rfl Kw.Sub.nil))))) ?_
        refine Kw.WC_region [some 56, some 57, some 58, some 59, some 4] rfl ?_
        refine Kw.WL_v rfl rfl rfl (Kw.R_move rfl) ?_
        refine Kw.WL_v rfl rfl rfl (Kw.R_fieldAddr (o' := 1) (k := 1) rfl Try.underlying40 rfl F.sz29 rfl) ?_
        refine Kw.WL_v rfl rfl rfl (Kw.R_loadN (ds := #[.int .i64 k.1, .int .i64 k.2]) rfl Try.underlying29 rfl F.sz29 A_gx (by show _ ≤ 4; decide) (rfl)) ?_
        replace R_rv := R_rv.call HC
        clear HC; have HC : Below w25.heap.size w25 w25 := Below.refl _ _
        refine Kw.WL_call rfl rfl rfl rfl F.cl12 rfl (refclear_c R hokR (by omega) rv k hk w25 R_rv) ?_
        rintro vr w26 ⟨O_vr, bw26⟩
        replace A_mb := A_mb.call bw26
        replace A_tb := A_tb.call bw26
        replace A_gx := A_gx.call bw26
        replace HB := Kw.Below.then HB (Nat.le_refl _) bw26; replace HC := Kw.Below.then HC (Nat.le_refl _) bw26; clear bw26 R_rv
        have R_rv := RdT.own O_vr; clear O_vr
        clear HC; have HC : Below w26.heap.size w26 w26 := Below.refl _ _
        have hTe2 := hTe.clear hnd k; have hTl2 := tdel_len T k; have hRl2 := clearL_len R k
        refine Kw.WL_v rfl rfl rfl (Kw.R_assign rfl) ?_
        refine Kw.WL_nil ?_
        refine Kw.QN_block ?_
        refine hK20 _ _ ?_; clear hK20 K20
        refine Kw.WC_seq (fun K27 hK27 => ?_)
        refine Kw.WC_region [some 93, some 94, some 95, some 96, some 92, some 97, some 98, some 10, some 11] rfl ?_
        refine Kw.WL_v rfl rfl rfl (Kw.R_move rfl) ?_
        refine Kw.WL_v rfl rfl rfl (Kw.R_fieldAddr (o' := 1) (k := 1) rfl Try.underlying40 rfl F.sz29 rfl) ?_
        refine Kw.WL_v rfl rfl rfl (Kw.R_loadN (ds := #[.int .i64 k.1, .int .i64 k.2]) rfl Try.underlying29 rfl F.sz29 A_gx (by show _ ≤ 4; decide) (rfl)) ?_
        replace R_rv := R_rv.call HC
        clear HC; have HC : Below w26.heap.size w26 w26 := Below.refl _ _
        obtain ⟨u, f, hg⟩ : ∃ u f, (match Kw.tget (Kw.tdel T k) k with | some u => (u, true) | none => (0, false)) = (u, f) := ⟨_, _, rfl⟩
        refine Kw.WL_callc rfl rfl rfl rfl F.cl10 rfl (at_c k hk u f tb mb (Kw.tdel T k) _ A_tb A_mb L_mb_tb hg) ?_; intro w28 bw28
        replace A_mb := A_mb.call bw28
        replace A_tb := A_tb.call bw28
        replace A_gx := A_gx.call bw28
        replace HB := Kw.Below.then HB (Nat.le_refl _) bw28; replace HC := Kw.Below.then HC (Nat.le_refl _) bw28
        clear bw28
        refine Kw.WL_v rfl rfl rfl (Kw.R_move rfl) ?_
        refine Kw.WL_v rfl rfl rfl (Kw.R_extract (v := .int .i64 u) rfl rfl) ?_
        refine Kw.WL_v rfl rfl rfl (Kw.R_extract (v := .bool f) rfl rfl) ?_
        refine Kw.WL_v rfl rfl rfl (Kw.R_assign rfl) ?_
        refine Kw.WL_v rfl rfl rfl (Kw.R_assign rfl) ?_
        refine Kw.WL_nil ?_
        refine hK27 _ _ ?_; clear hK27 K27
        refine Kw.WC_sub (l' := [(0, .slice (some ⟨g1, o1, none⟩) L.length cap1), (3, .pointer (some ⟨tb, 0, none⟩)), (4, vr), (5, .int .i64 (i : Int)), (6, .pointer (some ⟨gx, 0, none⟩)), (10, .int .i64 u), (11, .bool f)]) (Kw.Sub.cons rfl (Kw.Sub.cons rfl (Kw.Sub.cons rfl (Kw.Sub.cons rfl (Kw.Sub.cons rfl (Kw.Sub.cons rfl (Kw.Sub.cons rfl Kw.Sub.nil))))))) ?_
        refine Kw.WC_seq (fun K29 hK29 => ?_)
        refine Kw.WC_region [some 100, some 101, some 102, some 103, some 99, some 104, some 105, some 12, some 13] rfl ?_
        refine Kw.WL_v rfl rfl rfl (Kw.R_move rfl) ?_
        refine Kw.WL_v rfl rfl rfl (Kw.R_fieldAddr (o' := 1) (k := 1) rfl Try.underlying40 rfl F.sz29 rfl) ?_
        refine Kw.WL_v rfl rfl rfl (Kw.R_loadN (ds := #[.int .i64 k.1, .int .i64 k.2]) rfl Try.underlying29 rfl F.sz29 A_gx (by show _ ≤ 4; decide) (rfl)) ?_
        replace R_rv := R_rv.call HC
        clear HC; have HC : Below w28.heap.size w28 w28 := Below.refl _ _
        refine Kw.WL_callc rfl rfl rfl rfl F.cl17 rfl (refat_c (clearL R k) (hTe2.ok A_mb) (by omega) vr k hk u f w28 R_rv (by rw [hTe2.get]; exact hg)) ?_; intro w30 bw30
        replace A_mb := A_mb.call bw30
        replace A_tb := A_tb.call bw30
        replace A_gx := A_gx.call bw30
        replace HB := Kw.Below.then HB (Nat.le_refl _) bw30; replace HC := Kw.Below.then HC (Nat.le_refl _) bw30
        clear bw30
        refine Kw.WL_v rfl rfl rfl (Kw.R_move rfl) ?_
        refine Kw.WL_v rfl rfl rfl (Kw.R_extract (v := .int .i64 u) rfl rfl) ?_
        refine Kw.WL_v rfl rfl rfl (Kw.R_extract (v := .bool f) rfl rfl) ?_
        refine Kw.WL_v rfl rfl rfl (Kw.R_assign rfl) ?_
        refine Kw.WL_v rfl rfl rfl (Kw.R_assign rfl) ?_
        refine Kw.WL_nil ?_
        refine hK29 _ _ ?_; clear hK29 K29
        refine Kw.WC_sub (l' := [(0, .slice (some ⟨g1, o1, none⟩) L.length cap1), (3, .pointer (some ⟨tb, 0, none⟩)), (4, vr), (5, .int .i64 (i : Int)), (10, .int .i64 u), (11, .bool f), (12, .int .i64 u), (13, .bool f)]) (Kw.Sub.cons rfl (Kw.Sub.cons rfl (Kw.Sub.cons rfl (Kw.Sub.cons rfl (Kw.Sub.cons rfl (Kw.Sub.cons rfl (Kw.Sub.cons rfl (Kw.Sub.cons rfl Kw.Sub.nil)))))))) ?_
        refine Kw.WC_seq (fun K31 hK31 => ?_)
        refine Kw.WC_region [some 106, some 107, some 108, some 109, some 110, some 111, some 112, some 113] rfl ?_
        refine Kw.WL_v rfl rfl rfl (Kw.R_move rfl) ?_
        refine Kw.WL_v rfl rfl rfl (Kw.R_move rfl) ?_
        refine Kw.WL_v rfl rfl rfl (Kw.R_nei (z := false) rfl rfl (decide_eq_true rfl)) ?_
        refine Kw.WL_v rfl rfl rfl (Kw.R_move rfl) ?_
        refine Kw.WL_v rfl rfl rfl (Kw.R_move rfl) ?_
        refine Kw.WL_v rfl rfl rfl (Kw.R_move rfl) ?_
        refine Kw.WL_v rfl rfl rfl (Kw.R_neb (z := false) rfl rfl Try.underlying4 (by cases f <;> rfl)) ?_
        refine Kw.WL_v rfl rfl rfl (Kw.R_pickf rfl rfl) ?_
        refine Kw.WL_nil ?_
        refine hK31 _ _ ?_; clear hK31 K31
        refine Kw.WC_sub (l' := [(0, .slice (some ⟨g1, o1, none⟩) L.length cap1), (3, .pointer (some ⟨tb, 0, none⟩)), (4, vr), (5, .int .i64 (i : Int)), (110, .bool f), (111, .bool f), (112, .bool false), (113, .bool false)]) (Kw.Sub.cons rfl (Kw.Sub.cons rfl (Kw.Sub.cons rfl (Kw.Sub.cons rfl (Kw.Sub.cons rfl (Kw.Sub.cons rfl (Kw.Sub.cons rfl (Kw.Sub.cons rfl Kw.Sub.nil)))))))) ?_
        refine Kw.WC_false rfl ?_
        refine Kw.WC_skip ?_
        refine Kw.QN_block ?_
        refine hK16 _ _ ?_; clear hK16 K16
        refine Kw.WC_region [some 25, some 26, some 5] rfl ?_
        refine Kw.WL_v rfl rfl rfl (Kw.R_move rfl) ?_
        refine Kw.WL_v rfl rfl rfl (Kw.R_add (c := ((i + 1 : Nat) : Int)) rfl rfl (by rw [Kw.wrap_i64 (by omega)]; omega)) ?_
        refine Kw.WL_v rfl rfl rfl (Kw.R_assign rfl) ?_
        refine Kw.WL_nil ?_
        refine Kw.QN_round ((i + 1, (Kw.tdel T k), (clearL R k), vr)) ⟨⟨by (try dsimp only); omega, by (try dsimp only); omega, by (try dsimp only); omega, hTe2, R_rv.call HC⟩, A_mb, A_tb, HB⟩ (by dsimp only; omega) (Kw.Sub.cons rfl (Kw.Sub.cons rfl (Kw.Sub.cons rfl (Kw.Sub.cons rfl Kw.Sub.nil))))
      ·
        refine Kw.WL_v rfl rfl rfl (Kw.R_eqi (z := false) rfl rfl (decide_eq_false c23)) ?_
        refine Kw.WL_v rfl rfl rfl (Kw.R_assign rfl) ?_
        refine Kw.WL_nil ?_
        refine hK22 _ _ ?_; clear hK22 K22
        refine Kw.WC_false rfl ?_
        refine Kw.WC_seq (fun K33 hK33 => ?_)
        refine Kw.WC_seq (fun K34 hK34 => ?_)
        refine Kw.WC_region [some 61, some 60] rfl ?_
        by_cases c35 : (m8 : Int) = 5
        ·
          refine Kw.WL_v rfl rfl rfl (Kw.R_eqi (z := true) rfl rfl (decide_eq_true c35)) ?_
          refine Kw.WL_v rfl rfl rfl (Kw.R_assign rfl) ?_
          refine Kw.WL_nil ?_
          refine hK34 _ _ ?_; clear hK34 K34
          refine Kw.WC_true rfl ?_
          refine Kw.WC_skip ?_
          refine hK33 _ _ ?_; clear hK33 K33
          refine Kw.WC_true rfl ?_
          refine Kw.WC_seq (fun K36 hK36 => ?_)
          refine Kw.WC_region [some 64, some 65, some 66, some 67, some 63, some 68, some 69, some 7, some 8] rfl ?_
          refine Kw.WL_v rfl rfl rfl (Kw.R_move rfl) ?_
          refine Kw.WL_v rfl rfl rfl (Kw.R_fieldAddr (o' := 3) (k := 0) rfl Try.underlying40 rfl F.sz3 rfl) ?_
          refine Kw.WL_v rfl rfl rfl (Kw.R_load1 rfl Try.underlying3 rfl A_gx rfl) ?_
          replace R_rv := R_rv.call HC
          clear HC; have HC : Below w19.heap.size w19 w19 := Below.refl _ _
          refine Kw.WL_call rfl rfl rfl rfl F.cl13 rfl (refdue_c R (by omega) rv a w19 R_rv) ?_; rintro _ w37 ⟨⟨jj, vr, lv, rfl, hj1, hj2, hj3, O_vr, R_lv⟩, bw37⟩
          have D_vr_mb : Kw.ob vr ≠ some mb := fun e => absurd (O_vr.ge e) (Nat.not_le_of_lt A_mb.lt); replace A_mb := A_mb.call bw37
          have D_vr_tb : Kw.ob vr ≠ some tb := fun e => absurd (O_vr.ge e) (Nat.not_le_of_lt A_tb.lt); replace A_tb := A_tb.call bw37
          have D_vr_gx : Kw.ob vr ≠ some gx := fun e => absurd (O_vr.ge e) (Nat.not_le_of_lt A_gx.lt); replace A_gx := A_gx.call bw37
          replace O_vr := O_vr.mono HB.size
          replace HB := Kw.Below.then HB (Nat.le_refl _) bw37; replace HC := Kw.Below.then HC (Nat.le_refl _) bw37; clear bw37 R_rv
          have R_rv := R_lv; clear R_lv
          clear HC; have HC : Below w37.heap.size w37 w37 := Below.refl _ _
          refine Kw.WL_v rfl rfl rfl (Kw.R_move rfl) ?_
          refine Kw.WL_v rfl rfl rfl (Kw.R_extract (v := vr) rfl rfl) ?_
          refine Kw.WL_v rfl rfl rfl (Kw.R_extract (v := lv) rfl rfl) ?_
          refine Kw.WL_v rfl rfl rfl (Kw.R_assign rfl) ?_
          refine Kw.WL_v rfl rfl rfl (Kw.R_assign rfl) ?_
          refine Kw.WL_nil ?_
          refine hK36 _ _ ?_; clear hK36 K36
          refine Kw.WC_sub (l' := [(0, .slice (some ⟨g1, o1, none⟩) L.length cap1), (3, .pointer (some ⟨tb, 0, none⟩)), (5, .int .i64 (i : Int)), (6, .pointer (some ⟨gx, 0, none⟩)), (7, vr), (8, lv)]) (Kw.Sub.cons rfl (Kw.Sub.cons rfl (Kw.Sub.cons rfl (Kw.Sub.cons rfl (Kw.Sub.cons rfl (Kw.Sub.cons rfl Kw.Sub.nil)))))) ?_
          refine Kw.WC_seq (fun K38 hK38 => ?_)
          refine Kw.WC_seq (fun K39 hK39 => ?_)
          refine Kw.WC_region [some 70, some 71, some 72, some 73, some 74, some 75, some 76] rfl ?_
          refine Kw.WL_v rfl rfl rfl (Kw.R_move rfl) ?_
          refine Kw.WL_v rfl rfl rfl (Kw.R_fieldAddr (o' := 3) (k := 0) rfl Try.underlying40 rfl F.sz3 rfl) ?_
          refine Kw.WL_v rfl rfl rfl (Kw.R_load1 rfl Try.underlying3 rfl A_gx rfl) ?_
          replace R_rv := R_rv.call HC
          clear HC; have HC : Below w37.heap.size w37 w37 := Below.refl _ _
          have A_mbO := A_mb
          have hdl : T.length ≤ 1000000 := by omega
          refine Kw.WL_call rfl rfl rfl rfl F.cl9 rfl (due_c T a hdl tb mb _ A_tb A_mb L_mb_tb) ?_; rintro vk w40 ⟨kvk, hdue, O_vk, B_tb, B_mb, hmut⟩
          have D_vk_mb : Kw.ob vk ≠ some mb := fun e => absurd (O_vk.ge e) (Nat.not_le_of_lt A_mb.lt)
          have D_vk_tb : Kw.ob vk ≠ some tb := fun e => absurd (O_vk.ge e) (Nat.not_le_of_lt A_tb.lt)
          have D_vk_gx : Kw.ob vk ≠ some gx := fun e => absurd (O_vk.ge e) (Nat.not_le_of_lt A_gx.lt)
          have E_vr_vk : ∀ g, Kw.ob vr = some g → Kw.ob vk ≠ some g := fun g h1 h2 => absurd (O_vk.ge h2) (Nat.not_le_of_lt (O_vr.lt h1))
          replace O_vk := O_vk.mono HB.size
          clear A_tb A_mb; have A_tb := B_tb; have A_mb : TM w40 mb (dropK T kvk) := B_mb; clear B_tb B_mb
          replace A_gx := A_gx.mut hmut (fun e => absurd e (Nat.ne_of_gt L_mb_gx))
          replace O_vr := O_vr.mut hmut (fun g hg e => D_vr_mb (by rw [hg, e]))
          replace R_rv := R_rv.mut hmut A_mbO; clear A_mbO
          replace HB := Kw.Mut.below HB (Nat.le_refl _) hmut (fun k hk => by rw [hk]; exact G_mb); clear hmut
          clear HC; have HC : Below w40.heap.size w40 w40 := Below.refl _ _
          obtain ⟨hks, hTe2⟩ := hTe.due hnd hdue hj1 hj2 hj3; have hTl2 := dropK_len T kvk
          refine Kw.WL_v rfl rfl rfl (Kw.R_move rfl) ?_
          have hsm := same_c vk vr kvk ((R.take jj).map (·.1)) (by rw [hks]; exact take_ok hokR jj) (take_ok hokR jj) (by rw [hks, List.length_map, List.length_take]; omega) w40 (RdK.own O_vk) (RdK.own O_vr)
          rw [decide_eq_true hks] at hsm
          refine Kw.WL_callc rfl rfl rfl rfl F.cl14 rfl (hsm) ?_; intro w41 bw41
          replace A_mb := A_mb.call bw41
          replace A_tb := A_tb.call bw41
          replace A_gx := A_gx.call bw41
          replace HB := Kw.Below.then HB (Nat.le_refl _) bw41; replace HC := Kw.Below.then HC (Nat.le_refl _) bw41
          replace O_vr := O_vr.call bw41
          replace O_vk := O_vk.call bw41
          clear bw41
          clear O_vk O_vr hsm
          have hRl2 : (R.drop jj).length ≤ R.length := by rw [List.length_drop]; omega
          refine Kw.WL_v rfl rfl rfl (Kw.R_not rfl rfl) ?_
          refine Kw.WL_nil ?_
          refine hK39 _ _ ?_; clear hK39 K39
          refine Kw.WC_sub (l' := [(0, .slice (some ⟨g1, o1, none⟩) L.length cap1), (3, .pointer (some ⟨tb, 0, none⟩)), (5, .int .i64 (i : Int)), (6, .pointer (some ⟨gx, 0, none⟩)), (8, lv), (76, .bool false)]) (Kw.Sub.cons rfl (Kw.Sub.cons rfl (Kw.Sub.cons rfl (Kw.Sub.cons rfl (Kw.Sub.cons rfl (Kw.Sub.cons rfl Kw.Sub.nil)))))) ?_
          refine Kw.WC_false rfl ?_
          refine Kw.WC_skip ?_
          refine hK38 _ _ ?_; clear hK38 K38
          refine Kw.WC_region [some 77, some 4] rfl ?_
          refine Kw.WL_v rfl rfl rfl (Kw.R_move rfl) ?_
          refine Kw.WL_v rfl rfl rfl (Kw.R_assign rfl) ?_
          refine Kw.WL_nil ?_
          refine Kw.QN_block ?_
          refine hK20 _ _ ?_; clear hK20 K20
          refine Kw.WC_seq (fun K42 hK42 => ?_)
          refine Kw.WC_region [some 93, some 94, some 95, some 96, some 92, some 97, some 98, some 10, some 11] rfl ?_
          refine Kw.WL_v rfl rfl rfl (Kw.R_move rfl) ?_
          refine Kw.WL_v rfl rfl rfl (Kw.R_fieldAddr (o' := 1) (k := 1) rfl Try.underlying40 rfl F.sz29 rfl) ?_
          refine Kw.WL_v rfl rfl rfl (Kw.R_loadN (ds := #[.int .i64 k.1, .int .i64 k.2]) rfl Try.underlying29 rfl F.sz29 A_gx (by show _ ≤ 4; decide) (rfl)) ?_
          replace R_rv := R_rv.call HC
          clear HC; have HC : Below w41.heap.size w41 w41 := Below.refl _ _
          obtain ⟨u, f, hg⟩ : ∃ u f, (match Kw.tget (dropK T kvk) k with | some u => (u, true) | none => (0, false)) = (u, f) := ⟨_, _, rfl⟩
          refine Kw.WL_callc rfl rfl rfl rfl F.cl10 rfl (at_c k hk u f tb mb (dropK T kvk) _ A_tb A_mb L_mb_tb hg) ?_; intro w43 bw43
          replace A_mb := A_mb.call bw43
          replace A_tb := A_tb.call bw43
          replace A_gx := A_gx.call bw43
          replace HB := Kw.Below.then HB (Nat.le_refl _) bw43; replace HC := Kw.Below.then HC (Nat.le_refl _) bw43
          clear bw43
          refine Kw.WL_v rfl rfl rfl (Kw.R_move rfl) ?_
          refine Kw.WL_v rfl rfl rfl (Kw.R_extract (v := .int .i64 u) rfl rfl) ?_
          refine Kw.WL_v rfl rfl rfl (Kw.R_extract (v := .bool f) rfl rfl) ?_
          refine Kw.WL_v rfl rfl rfl (Kw.R_assign rfl) ?_
          refine Kw.WL_v rfl rfl rfl (Kw.R_assign rfl) ?_
          refine Kw.WL_nil ?_
          refine hK42 _ _ ?_; clear hK42 K42
          refine Kw.WC_sub (l' := [(0, .slice (some ⟨g1, o1, none⟩) L.length cap1), (3, .pointer (some ⟨tb, 0, none⟩)), (5, .int .i64 (i : Int)), (6, .pointer (some ⟨gx, 0, none⟩)), (4, lv), (10, .int .i64 u), (11, .bool f)]) (Kw.Sub.cons rfl (Kw.Sub.cons rfl (Kw.Sub.cons rfl (Kw.Sub.cons rfl (Kw.Sub.cons rfl (Kw.Sub.cons rfl (Kw.Sub.cons rfl Kw.Sub.nil))))))) ?_
          refine Kw.WC_seq (fun K44 hK44 => ?_)
          refine Kw.WC_region [some 100, some 101, some 102, some 103, some 99, some 104, some 105, some 12, some 13] rfl ?_
          refine Kw.WL_v rfl rfl rfl (Kw.R_move rfl) ?_
          refine Kw.WL_v rfl rfl rfl (Kw.R_fieldAddr (o' := 1) (k := 1) rfl Try.underlying40 rfl F.sz29 rfl) ?_
          refine Kw.WL_v rfl rfl rfl (Kw.R_loadN (ds := #[.int .i64 k.1, .int .i64 k.2]) rfl Try.underlying29 rfl F.sz29 A_gx (by show _ ≤ 4; decide) (rfl)) ?_
          replace R_rv := R_rv.call HC
          clear HC; have HC : Below w43.heap.size w43 w43 := Below.refl _ _
          refine Kw.WL_callc rfl rfl rfl rfl F.cl17 rfl (refat_c (R.drop jj) (hTe2.ok A_mb) (by omega) lv k hk u f w43 R_rv (by rw [hTe2.get]; exact hg)) ?_; intro w45 bw45
          replace A_mb := A_mb.call bw45
          replace A_tb := A_tb.call bw45
          replace A_gx := A_gx.call bw45
          replace HB := Kw.Below.then HB (Nat.le_refl _) bw45; replace HC := Kw.Below.then HC (Nat.le_refl _) bw45
          clear bw45
          refine Kw.WL_v rfl rfl rfl (Kw.R_move rfl) ?_
          refine Kw.WL_v rfl rfl rfl (Kw.R_extract (v := .int .i64 u) rfl rfl) ?_
          refine Kw.WL_v rfl rfl rfl (Kw.R_extract (v := .bool f) rfl rfl) ?_
          refine Kw.WL_v rfl rfl rfl (Kw.R_assign rfl) ?_
          refine Kw.WL_v rfl rfl rfl (Kw.R_assign rfl) ?_
          refine Kw.WL_nil ?_
          refine hK44 _ _ ?_; clear hK44 K44
          refine Kw.WC_sub (l' := [(0, .slice (some ⟨g1, o1, none⟩) L.length cap1), (3, .pointer (some ⟨tb, 0, none⟩)), (5, .int .i64 (i : Int)), (4, lv), (10, .int .i64 u), (11, .bool f), (12, .int .i64 u), (13, .bool f)]) (Kw.Sub.cons rfl (Kw.Sub.cons rfl (Kw.Sub.cons rfl (Kw.Sub.cons rfl (Kw.Sub.cons rfl (Kw.Sub.cons rfl (Kw.Sub.cons rfl (Kw.Sub.cons rfl Kw.Sub.nil)))))))) ?_
          refine Kw.WC_seq (fun K46 hK46 => ?_)
          refine Kw.WC_region [some 106, some 107, some 108, some 109, some 110, some 111, some 112, some 113] rfl ?_
          refine Kw.WL_v rfl rfl rfl (Kw.R_move rfl) ?_
          refine Kw.WL_v rfl rfl rfl (Kw.R_move rfl) ?_
          refine Kw.WL_v rfl rfl rfl (Kw.R_nei (z := false) rfl rfl (decide_eq_true rfl)) ?_
          refine Kw.WL_v rfl rfl rfl (Kw.R_move rfl) ?_
          refine Kw.WL_v rfl rfl rfl (Kw.R_move rfl) ?_
          refine Kw.WL_v rfl rfl rfl (Kw.R_move rfl) ?_
          refine Kw.WL_v rfl rfl rfl (Kw.R_neb (z := false) rfl rfl Try.underlying4 (by cases f <;> rfl)) ?_
          refine Kw.WL_v rfl rfl rfl (Kw.R_pickf rfl rfl) ?_
          refine Kw.WL_nil ?_
          refine hK46 _ _ ?_; clear hK46 K46
          refine Kw.WC_sub (l' := [(0, .slice (some ⟨g1, o1, none⟩) L.length cap1), (3, .pointer (some ⟨tb, 0, none⟩)), (5, .int .i64 (i : Int)), (4, lv), (110, .bool f), (111, .bool f), (112, .bool false), (113, .bool false)]) (Kw.Sub.cons rfl (Kw.Sub.cons rfl (Kw.Sub.cons rfl (Kw.Sub.cons rfl (Kw.Sub.cons rfl (Kw.Sub.cons rfl (Kw.Sub.cons rfl (Kw.Sub.cons rfl Kw.Sub.nil)))))))) ?_
          refine Kw.WC_false rfl ?_
          refine Kw.WC_skip ?_
          refine Kw.QN_block ?_
          refine hK16 _ _ ?_; clear hK16 K16
          refine Kw.WC_region [some 25, some 26, some 5] rfl ?_
          refine Kw.WL_v rfl rfl rfl (Kw.R_move rfl) ?_
          refine Kw.WL_v rfl rfl rfl (Kw.R_add (c := ((i + 1 : Nat) : Int)) rfl rfl (by rw [Kw.wrap_i64 (by omega)]; omega)) ?_
          refine Kw.WL_v rfl rfl rfl (Kw.R_assign rfl) ?_
          refine Kw.WL_nil ?_
          refine Kw.QN_round ((i + 1, (dropK T kvk), (R.drop jj), lv)) ⟨⟨by (try dsimp only); omega, by (try dsimp only); omega, by (try dsimp only); omega, hTe2, R_rv.call HC⟩, A_mb, A_tb, HB⟩ (by dsimp only; omega) (Kw.Sub.cons rfl (Kw.Sub.cons rfl (Kw.Sub.cons rfl (Kw.Sub.cons rfl Kw.Sub.nil))))
        ·
          refine Kw.WL_v rfl rfl rfl (Kw.R_eqi (z := false) rfl rfl (decide_eq_false c35)) ?_
          refine Kw.WL_v rfl rfl rfl (Kw.R_assign rfl) ?_
          refine Kw.WL_nil ?_
          refine hK34 _ _ ?_; clear hK34 K34
          refine Kw.WC_false rfl ?_
          refine Kw.WC_region [some 62, some 60] rfl ?_
          by_cases c48 : (m8 : Int) = 6
          ·
            refine Kw.WL_v rfl rfl rfl (Kw.R_eqi (z := true) rfl rfl (decide_eq_true c48)) ?_
            refine Kw.WL_v rfl rfl rfl (Kw.R_assign rfl) ?_
            refine Kw.WL_nil ?_
            refine hK33 _ _ ?_; clear hK33 K33
            refine Kw.WC_sub (l' := [(0, .slice (some ⟨g1, o1, none⟩) L.length cap1), (3, .pointer (some ⟨tb, 0, none⟩)), (4, rv), (5, .int .i64 (i : Int)), (6, .pointer (some ⟨gx, 0, none⟩)), (33, .int .u8 m8), (60, .bool true)]) (Kw.Sub.cons rfl (Kw.Sub.cons rfl (Kw.Sub.cons rfl (Kw.Sub.cons rfl (Kw.Sub.cons rfl (Kw.Sub.cons rfl (Kw.Sub.cons rfl Kw.Sub.nil))))))) ?_
            refine Kw.WC_true rfl ?_
            refine Kw.WC_seq (fun K49 hK49 => ?_)
            refine Kw.WC_region [some 64, some 65, some 66, some 67, some 63, some 68, some 69, some 7, some 8] rfl ?_
            refine Kw.WL_v rfl rfl rfl (Kw.R_move rfl) ?_
            refine Kw.WL_v rfl rfl rfl (Kw.R_fieldAddr (o' := 3) (k := 0) rfl Try.underlying40 rfl F.sz3 rfl) ?_
            refine Kw.WL_v rfl rfl rfl (Kw.R_load1 rfl Try.underlying3 rfl A_gx rfl) ?_
            replace R_rv := R_rv.call HC
            clear HC; have HC : Below w19.heap.size w19 w19 := Below.refl _ _
            refine Kw.WL_call rfl rfl rfl rfl F.cl13 rfl (refdue_c R (by omega) rv a w19 R_rv) ?_; rintro _ w50 ⟨⟨jj, vr, lv, rfl, hj1, hj2, hj3, O_vr, R_lv⟩, bw50⟩
            have D_vr_mb : Kw.ob vr ≠ some mb := fun e => absurd (O_vr.ge e) (Nat.not_le_of_lt A_mb.lt); replace A_mb := A_mb.call bw50
            have D_vr_tb : Kw.ob vr ≠ some tb := fun e => absurd (O_vr.ge e) (Nat.not_le_of_lt A_tb.lt); replace A_tb := A_tb.call bw50
            have D_vr_gx : Kw.ob vr ≠ some gx := fun e => absurd (O_vr.ge e) (Nat.not_le_of_lt A_gx.lt); replace A_gx := A_gx.call bw50
            replace O_vr := O_vr.mono HB.size
            replace HB := Kw.Below.then HB (Nat.le_refl _) bw50; replace HC := Kw.Below.then HC (Nat.le_refl _) bw50; clear bw50 R_rv
            have R_rv := R_lv; clear R_lv
            clear HC; have HC : Below w50.heap.size w50 w50 := Below.refl _ _
            refine Kw.WL_v rfl rfl rfl (Kw.R_move rfl) ?_
            refine Kw.WL_v rfl rfl rfl (Kw.R_extract (v := vr) rfl rfl) ?_
            refine Kw.WL_v rfl rfl rfl (Kw.R_extract (v := lv) rfl rfl) ?_
            refine Kw.WL_v rfl rfl rfl (Kw.R_assign rfl) ?_
            refine Kw.WL_v rfl rfl rfl (Kw.R_assign rfl) ?_
            refine Kw.WL_nil ?_
            refine hK49 _ _ ?_; clear hK49 K49
            refine Kw.WC_sub (l' := [(0, .slice (some ⟨g1, o1, none⟩) L.length cap1), (3, .pointer (some ⟨tb, 0, none⟩)), (5, .int .i64 (i : Int)), (6, .pointer (some ⟨gx, 0, none⟩)), (7, vr), (8, lv)]) (Kw.Sub.cons rfl (Kw.Sub.cons rfl (Kw.Sub.cons rfl (Kw.Sub.cons rfl (Kw.Sub.cons rfl (Kw.Sub.cons rfl Kw.Sub.nil)))))) ?_
            refine Kw.WC_seq (fun K51 hK51 => ?_)
            refine Kw.WC_seq (fun K52 hK52 => ?_)
            refine Kw.WC_region [some 70, some 71, some 72, some 73, some 74, some 75, some 76] rfl ?_
            refine Kw.WL_v rfl rfl rfl (Kw.R_move rfl) ?_
            refine Kw.WL_v rfl rfl rfl (Kw.R_fieldAddr (o' := 3) (k := 0) rfl Try.underlying40 rfl F.sz3 rfl) ?_
            refine Kw.WL_v rfl rfl rfl (Kw.R_load1 rfl Try.underlying3 rfl A_gx rfl) ?_
            replace R_rv := R_rv.call HC
            clear HC; have HC : Below w50.heap.size w50 w50 := Below.refl _ _
            have A_mbO := A_mb
            have hdl : T.length ≤ 1000000 := by omega
            refine Kw.WL_call rfl rfl rfl rfl F.cl9 rfl (due_c T a hdl tb mb _ A_tb A_mb L_mb_tb) ?_; rintro vk w53 ⟨kvk, hdue, O_vk, B_tb, B_mb, hmut⟩
            have D_vk_mb : Kw.ob vk ≠ some mb := fun e => absurd (O_vk.ge e) (Nat.not_le_of_lt A_mb.lt)
            have D_vk_tb : Kw.ob vk ≠ some tb := fun e => absurd (O_vk.ge e) (Nat.not_le_of_lt A_tb.lt)
            have D_vk_gx : Kw.ob vk ≠ some gx := fun e => absurd (O_vk.ge e) (Nat.not_le_of_lt A_gx.lt)
            have E_vr_vk : ∀ g, Kw.ob vr = some g → Kw.ob vk ≠ some g := fun g h1 h2 => absurd (O_vk.ge h2) (Nat.not_le_of_lt (O_vr.lt h1))
            replace O_vk := O_vk.mono HB.size
            clear A_tb A_mb; have A_tb := B_tb; have A_mb : TM w53 mb (dropK T kvk) := B_mb; clear B_tb B_mb
            replace A_gx := A_gx.mut hmut (fun e => absurd e (Nat.ne_of_gt L_mb_gx))
            replace O_vr := O_vr.mut hmut (fun g hg e => D_vr_mb (by rw [hg, e]))
            replace R_rv := R_rv.mut hmut A_mbO; clear A_mbO
            replace HB := Kw.Mut.below HB (Nat.le_refl _) hmut (fun k hk => by rw [hk]; exact G_mb); clear hmut
            clear HC; have HC : Below w53.heap.size w53 w53 := Below.refl _ _
            obtain ⟨hks, hTe2⟩ := hTe.due hnd hdue hj1 hj2 hj3; have hTl2 := dropK_len T kvk
            refine Kw.WL_v rfl rfl rfl (Kw.R_move rfl) ?_
            have hsm := same_c vk vr kvk ((R.take jj).map (·.1)) (by rw [hks]; exact take_ok hokR jj) (take_ok hokR jj) (by rw [hks, List.length_map, List.length_take]; omega) w53 (RdK.own O_vk) (RdK.own O_vr)
            rw [decide_eq_true hks] at hsm
            refine Kw.WL_callc rfl rfl rfl rfl F.cl14 rfl (hsm) ?_; intro w54 bw54
            replace A_mb := A_mb.call bw54
            replace A_tb := A_tb.call bw54
            replace A_gx := A_gx.call bw54
            replace HB := Kw.Below.then HB (Nat.le_refl _) bw54; replace HC := Kw.Below.then HC (Nat.le_refl _) bw54
            replace O_vr := O_vr.call bw54
            replace O_vk := O_vk.call bw54
            clear bw54
            clear O_vk O_vr hsm
            have hRl2 : (R.drop jj).length ≤ R.length := by rw [List.length_drop]; omega
            refine Kw.WL_v rfl rfl rfl (Kw.R_not rfl rfl) ?_
            refine Kw.WL_nil ?_
            refine hK52 _ _ ?_; clear hK52 K52
            refine Kw.WC_sub (l' := [(0, .slice (some ⟨g1, o1, none⟩) L.length cap1), (3, .pointer (some ⟨tb, 0, none⟩)), (5, .int .i64 (i : Int)), (6, .pointer (some ⟨gx, 0, none⟩)), (8, lv), (76, .bool false)]) (Kw.Sub.cons rfl (Kw.Sub.cons rfl (Kw.Sub.cons rfl (Kw.Sub.cons rfl (Kw.Sub.cons rfl (Kw.Sub.cons rfl Kw.Sub.nil)))))) ?_
            refine Kw.WC_false rfl ?_
            refine Kw.WC_skip ?_
            refine hK51 _ _ ?_; clear hK51 K51
            refine Kw.WC_region [some 77, some 4] rfl ?_
            refine Kw.WL_v rfl rfl rfl (Kw.R_move rfl) ?_
            refine Kw.WL_v rfl rfl rfl (Kw.R_assign rfl) ?_
            refine Kw.WL_nil ?_
            refine Kw.QN_block ?_
            refine hK20 _ _ ?_; clear hK20 K20
            refine Kw.WC_seq (fun K55 hK55 => ?_)
            refine Kw.WC_region [some 93, some 94, some 95, some 96, some 92, some 97, some 98, some 10, some 11] rfl ?_
            refine Kw.WL_v rfl rfl rfl (Kw.R_move rfl) ?_
            refine Kw.WL_v rfl rfl rfl (Kw.R_fieldAddr (o' := 1) (k := 1) rfl Try.underlying40 rfl F.sz29 rfl) ?_
            refine Kw.WL_v rfl rfl rfl (Kw.R_loadN (ds := #[.int .i64 k.1, .int .i64 k.2]) rfl Try.underlying29 rfl F.sz29 A_gx (by show _ ≤ 4; decide) (rfl)) ?_
            replace R_rv := R_rv.call HC
            clear HC; have HC : Below w54.heap.size w54 w54 := Below.refl _ _
            obtain ⟨u, f, hg⟩ : ∃ u f, (match Kw.tget (dropK T kvk) k with | some u => (u, true) | none => (0, false)) = (u, f) := ⟨_, _, rfl⟩
            refine Kw.WL_callc rfl rfl rfl rfl F.cl10 rfl (at_c k hk u f tb mb (dropK T kvk) _ A_tb A_mb L_mb_tb hg) ?_; intro w56 bw56
            replace A_mb := A_mb.call bw56
            replace A_tb := A_tb.call bw56
            replace A_gx := A_gx.call bw56
            replace HB := Kw.Below.then HB (Nat.le_refl _) bw56; replace HC := Kw.Below.then HC (Nat.le_refl _) bw56
            clear bw56
            refine Kw.WL_v rfl rfl rfl (Kw.R_move rfl) ?_
            refine Kw.WL_v rfl rfl rfl (Kw.R_extract (v := .int .i64 u) rfl rfl) ?_
            refine Kw.WL_v rfl rfl rfl (Kw.R_extract (v := .bool f) rfl rfl) ?_
            refine Kw.WL_v rfl rfl rfl (Kw.R_assign rfl) ?_
            refine Kw.WL_v rfl rfl rfl (Kw.R_assign rfl) ?_
            refine Kw.WL_nil ?_
            refine hK55 _ _ ?_; clear hK55 K55
            refine Kw.WC_sub (l' := [(0, .slice (some ⟨g1, o1, none⟩) L.length cap1), (3, .pointer (some ⟨tb, 0, none⟩)), (5, .int .i64 (i : Int)), (6, .pointer (some ⟨gx, 0, none⟩)), (4, lv), (10, .int .i64 u), (11, .bool f)]) (Kw.Sub.cons rfl (Kw.Sub.cons rfl (Kw.Sub.cons rfl (Kw.Sub.cons rfl (Kw.Sub.cons rfl (Kw.Sub.cons rfl (Kw.Sub.cons rfl Kw.Sub.nil))))))) ?_
            refine Kw.WC_seq (fun K57 hK57 => ?_)
            refine Kw.WC_region [some 100, some 101, some 102, some 103, some 99, some 104, some 105, some 12, some 13] rfl ?_
            refine Kw.WL_v rfl rfl rfl (Kw.R_move rfl) ?_
            refine Kw.WL_v rfl rfl rfl (Kw.R_fieldAddr (o' := 1) (k := 1) rfl Try.underlying40 rfl F.sz29 rfl) ?_
            refine Kw.WL_v rfl rfl rfl (Kw.R_loadN (ds := #[.int .i64 k.1, .int .i64 k.2]) rfl Try.underlying29 rfl F.sz29 A_gx (by show _ ≤ 4; decide) (rfl)) ?_
            replace R_rv := R_rv.call HC
            clear HC; have HC : Below w56.heap.size w56 w56 := Below.refl _ _
            refine Kw.WL_callc rfl rfl rfl rfl F.cl17 rfl (refat_c (R.drop jj) (hTe2.ok A_mb) (by omega) lv k hk u f w56 R_rv (by rw [hTe2.get]; exact hg)) ?_; intro w58 bw58
            replace A_mb := A_mb.call bw58
            replace A_tb := A_tb.call bw58
            replace A_gx := A_gx.call bw58
            replace HB := Kw.Below.then HB (Nat.le_refl _) bw58; replace HC := Kw.Below.then HC (Nat.le_refl _) bw58
            clear bw58
            refine Kw.WL_v rfl rfl rfl (Kw.R_move rfl) ?_
            refine Kw.WL_v rfl rfl rfl (Kw.R_extract (v := .int .i64 u) rfl rfl) ?_
            refine Kw.WL_v rfl rfl rfl (Kw.R_extract (v := .bool f) rfl rfl) ?_
            refine Kw.WL_v rfl rfl rfl (Kw.R_assign rfl) ?_
            refine Kw.WL_v rfl rfl rfl (Kw.R_assign rfl) ?_
            refine Kw.WL_nil ?_
            refine hK57 _ _ ?_; clear hK57 K57
            refine Kw.WC_sub (l' := [(0, .slice (some ⟨g1, o1, none⟩) L.length cap1), (3, .pointer (some ⟨tb, 0, none⟩)), (5, .int .i64 (i : Int)), (4, lv), (10, .int .i64 u), (11, .bool f), (12, .int .i64 u), (13, .bool f)]) (Kw.Sub.cons rfl (Kw.Sub.cons rfl (Kw.Sub.cons rfl (Kw.Sub.cons rfl (Kw.Sub.cons rfl (Kw.Sub.cons rfl (Kw.Sub.cons rfl (Kw.Sub.cons rfl Kw.Sub.nil)))))))) ?_
            refine Kw.WC_seq (fun K59 hK59 => ?_)
            refine Kw.WC_region [some 106, some 107, some 108, some 109, some 110, some 111, some 112, some 113] rfl ?_
            refine Kw.WL_v rfl rfl rfl (Kw.R_move rfl) ?_
            refine Kw.WL_v rfl rfl rfl (Kw.R_move rfl) ?_
            refine Kw.WL_v rfl rfl rfl (Kw.R_nei (z := false) rfl rfl (decide_eq_true rfl)) ?_
            refine Kw.WL_v rfl rfl rfl (Kw.R_move rfl) ?_
            refine Kw.WL_v rfl rfl rfl (Kw.R_move rfl) ?_
            refine Kw.WL_v rfl rfl rfl (Kw.R_move rfl) ?_
            refine Kw.WL_v rfl rfl rfl (Kw.R_neb (z := false) rfl rfl Try.underlying4 (by cases f <;> rfl)) ?_
            refine Kw.WL_v rfl rfl rfl (Kw.R_pickf rfl rfl) ?_
            refine Kw.WL_nil ?_
            refine hK59 _ _ ?_; clear hK59 K59
            refine Kw.WC_sub (l' := [(0, .slice (some ⟨g1, o1, none⟩) L.length cap1), (3, .pointer (some ⟨tb, 0, none⟩)), (5, .int .i64 (i : Int)), (4, lv), (110, .bool f), (111, .bool f), (112, .bool false), (113, .bool false)]) (Kw.Sub.cons rfl (Kw.Sub.cons rfl (Kw.Sub.cons rfl (Kw.Sub.cons rfl (Kw.Sub.cons rfl (Kw.Sub.cons rfl (Kw.Sub.cons rfl (Kw.Sub.cons rfl Kw.Sub.nil)))))))) ?_
            refine Kw.WC_false rfl ?_
            refine Kw.WC_skip ?_
            refine Kw.QN_block ?_
            refine hK16 _ _ ?_; clear hK16 K16
            refine Kw.WC_region [some 25, some 26, some 5] rfl ?_
            refine Kw.WL_v rfl rfl rfl (Kw.R_move rfl) ?_
            refine Kw.WL_v rfl rfl rfl (Kw.R_add (c := ((i + 1 : Nat) : Int)) rfl rfl (by rw [Kw.wrap_i64 (by omega)]; omega)) ?_
            refine Kw.WL_v rfl rfl rfl (Kw.R_assign rfl) ?_
            refine Kw.WL_nil ?_
            refine Kw.QN_round ((i + 1, (dropK T kvk), (R.drop jj), lv)) ⟨⟨by (try dsimp only); omega, by (try dsimp only); omega, by (try dsimp only); omega, hTe2, R_rv.call HC⟩, A_mb, A_tb, HB⟩ (by dsimp only; omega) (Kw.Sub.cons rfl (Kw.Sub.cons rfl (Kw.Sub.cons rfl (Kw.Sub.cons rfl Kw.Sub.nil))))
          ·
            refine Kw.WL_v rfl rfl rfl (Kw.R_eqi (z := false) rfl rfl (decide_eq_false c48)) ?_
            refine Kw.WL_v rfl rfl rfl (Kw.R_assign rfl) ?_
            refine Kw.WL_nil ?_
            refine hK33 _ _ ?_; clear hK33 K33
            refine Kw.WC_sub (l' := [(0, .slice (some ⟨g1, o1, none⟩) L.length cap1), (3, .pointer (some ⟨tb, 0, none⟩)), (4, rv), (5, .int .i64 (i : Int)), (6, .pointer (some ⟨gx, 0, none⟩)), (33, .int .u8 m8), (60, .bool false)]) (Kw.Sub.cons rfl (Kw.Sub.cons rfl (Kw.Sub.cons rfl (Kw.Sub.cons rfl (Kw.Sub.cons rfl (Kw.Sub.cons rfl (Kw.Sub.cons rfl Kw.Sub.nil))))))) ?_
            refine Kw.WC_false rfl ?_
            refine Kw.WC_seq (fun K61 hK61 => ?_)
            refine Kw.WC_region [some 79, some 78] rfl ?_
            by_cases c62 : (m8 : Int) = 7
            ·
              refine Kw.WL_v rfl rfl rfl (Kw.R_eqi (z := true) rfl rfl (decide_eq_true c62)) ?_
              refine Kw.WL_v rfl rfl rfl (Kw.R_assign rfl) ?_
              refine Kw.WL_nil ?_
              refine hK61 _ _ ?_; clear hK61 K61
              refine Kw.WC_true rfl ?_
              refine Kw.WC_seq (fun K63 hK63 => ?_)
              refine Kw.WC_region [some 80, some 81, some 9] rfl ?_
              refine Kw.WL_v rfl rfl rfl (Kw.R_move rfl) ?_
              replace R_rv := R_rv.call HC
              clear HC; have HC : Below w19.heap.size w19 w19 := Below.refl _ _
              refine Kw.WL_call rfl rfl rfl rfl F.cl15 rfl (copy_c tb mb T w19 A_tb A_mb L_mb_tb) ?_; rintro _ w64 ⟨⟨t2, m2, rfl, L_m2_t2, hm2, A_t2, A_m2⟩, bw64⟩
              have G_m2 : w.heap.size ≤ m2 := Nat.le_trans HB.size hm2
              have L_mb_m2 : mb < m2 := Nat.lt_of_lt_of_le A_mb.lt hm2; have L_mb_t2 : mb < t2 := Nat.lt_trans L_mb_m2 L_m2_t2; replace A_mb := A_mb.call bw64
              have L_tb_m2 : tb < m2 := Nat.lt_of_lt_of_le A_tb.lt hm2; have L_tb_t2 : tb < t2 := Nat.lt_trans L_tb_m2 L_m2_t2; replace A_tb := A_tb.call bw64
              have L_gx_m2 : gx < m2 := Nat.lt_of_lt_of_le A_gx.lt hm2; have L_gx_t2 : gx < t2 := Nat.lt_trans L_gx_m2 L_m2_t2; replace A_gx := A_gx.call bw64
              replace HB := Kw.Below.then HB (Nat.le_refl _) bw64; replace HC := Kw.Below.then HC (Nat.le_refl _) bw64; clear bw64 hm2
              replace R_rv := R_rv.call HC
              clear HC; have HC : Below w64.heap.size w64 w64 := Below.refl _ _
              refine Kw.WL_v rfl rfl rfl (Kw.R_assign rfl) ?_
              refine Kw.WL_nil ?_
              refine hK63 _ _ ?_; clear hK63 K63
              refine Kw.WC_sub (l' := [(0, .slice (some ⟨g1, o1, none⟩) L.length cap1), (3, .pointer (some ⟨tb, 0, none⟩)), (4, rv), (5, .int .i64 (i : Int)), (6, .pointer (some ⟨gx, 0, none⟩)), (9, .pointer (some ⟨t2, 0, none⟩))]) (Kw.Sub.cons rfl (Kw.Sub.cons rfl (Kw.Sub.cons rfl (Kw.Sub.cons rfl (Kw.Sub.cons rfl (Kw.Sub.cons rfl Kw.Sub.nil)))))) ?_
              refine Kw.WC_seq (fun K65 hK65 => ?_)
              refine Kw.WC_region [some 82, some 83, some 84, some 85, some 86, some 87] rfl ?_
              refine Kw.WL_v rfl rfl rfl (Kw.R_move rfl) ?_
              refine Kw.WL_v rfl rfl rfl (Kw.R_fieldAddr (o' := 1) (k := 1) rfl Try.underlying40 rfl F.sz29 rfl) ?_
              refine Kw.WL_v rfl rfl rfl (Kw.R_loadN (ds := #[.int .i64 k.1, .int .i64 k.2]) rfl Try.underlying29 rfl F.sz29 A_gx (by show _ ≤ 4; decide) (rfl)) ?_
              refine Kw.WL_v rfl rfl rfl (Kw.R_fieldAddr (o' := 3) (k := 0) rfl Try.underlying40 rfl F.sz3 rfl) ?_
              refine Kw.WL_v rfl rfl rfl (Kw.R_load1 rfl Try.underlying3 rfl A_gx rfl) ?_
              replace R_rv := R_rv.call HC
              clear HC; have HC : Below w64.heap.size w64 w64 := Below.refl _ _
              have A_mbO := A_m2
              refine Kw.WL_callc rfl rfl rfl rfl F.cl8 rfl (set_c k a hk t2 m2 T _ A_t2 A_m2 L_m2_t2) ?_; rintro w66 ⟨B_tb, B_mb, hmut⟩
              clear A_t2 A_m2; have A_t2 := B_tb; have A_m2 : TM w66 m2 (Kw.tset T k a) := B_mb; clear B_tb B_mb
              replace A_mb := A_mb.mut hmut (fun e => absurd e (Nat.ne_of_lt L_mb_m2))
              replace A_tb := A_tb.mut hmut (fun e => absurd e (Nat.ne_of_lt L_tb_m2))
              replace A_gx := A_gx.mut hmut (fun e => absurd e (Nat.ne_of_lt L_gx_m2))
              replace R_rv := R_rv.mut hmut A_mbO; clear A_mbO
              replace HB := Kw.Mut.below HB (Nat.le_refl _) hmut (fun k hk => by rw [hk]; exact G_m2); clear hmut
              clear HC; have HC : Below w66.heap.size w66 w66 := Below.refl _ _
              refine Kw.WL_nil ?_
              refine hK65 _ _ ?_; clear hK65 K65
              refine Kw.WC_sub (l' := [(0, .slice (some ⟨g1, o1, none⟩) L.length cap1), (3, .pointer (some ⟨tb, 0, none⟩)), (4, rv), (5, .int .i64 (i : Int)), (6, .pointer (some ⟨gx, 0, none⟩)), (9, .pointer (some ⟨t2, 0, none⟩))]) (Kw.Sub.cons rfl (Kw.Sub.cons rfl (Kw.Sub.cons rfl (Kw.Sub.cons rfl (Kw.Sub.cons rfl (Kw.Sub.cons rfl Kw.Sub.nil)))))) ?_
              refine Kw.WC_region [some 88, some 89, some 90, some 91] rfl ?_
              refine Kw.WL_v rfl rfl rfl (Kw.R_move rfl) ?_
              refine Kw.WL_v rfl rfl rfl (Kw.R_fieldAddr (o' := 3) (k := 0) rfl Try.underlying40 rfl F.sz3 rfl) ?_
              refine Kw.WL_v rfl rfl rfl (Kw.R_load1 rfl Try.underlying3 rfl A_gx rfl) ?_
              have hTl3 := tset_len T k a
              replace R_rv := R_rv.call HC
              clear HC; have HC : Below w66.heap.size w66 w66 := Below.refl _ _
              have A_mbO := A_m2
              have hdl : (Kw.tset T k a).length ≤ 1000000 := by omega
              refine Kw.WL_call rfl rfl rfl rfl F.cl9 rfl (due_c (Kw.tset T k a) a hdl t2 m2 _ A_t2 A_m2 L_m2_t2) ?_; rintro vz w67 ⟨kvz, hdue, O_vz, B_tb, B_mb, hmut⟩
              have D_vz_mb : Kw.ob vz ≠ some mb := fun e => absurd (O_vz.ge e) (Nat.not_le_of_lt A_mb.lt)
              have D_vz_tb : Kw.ob vz ≠ some tb := fun e => absurd (O_vz.ge e) (Nat.not_le_of_lt A_tb.lt)
              have D_vz_gx : Kw.ob vz ≠ some gx := fun e => absurd (O_vz.ge e) (Nat.not_le_of_lt A_gx.lt)
              have D_vz_m2 : Kw.ob vz ≠ some m2 := fun e => absurd (O_vz.ge e) (Nat.not_le_of_lt A_m2.lt)
              have D_vz_t2 : Kw.ob vz ≠ some t2 := fun e => absurd (O_vz.ge e) (Nat.not_le_of_lt A_t2.lt)
              replace O_vz := O_vz.mono HB.size
              clear A_t2 A_m2; have A_t2 := B_tb; have A_m2 : TM w67 m2 (dropK (Kw.tset T k a) kvz) := B_mb; clear B_tb B_mb
              replace A_mb := A_mb.mut hmut (fun e => absurd e (Nat.ne_of_lt L_mb_m2))
              replace A_tb := A_tb.mut hmut (fun e => absurd e (Nat.ne_of_lt L_tb_m2))
              replace A_gx := A_gx.mut hmut (fun e => absurd e (Nat.ne_of_lt L_gx_m2))
              replace R_rv := R_rv.mut hmut A_mbO; clear A_mbO
              replace HB := Kw.Mut.below HB (Nat.le_refl _) hmut (fun k hk => by rw [hk]; exact G_m2); clear hmut
              clear HC; have HC : Below w67.heap.size w67 w67 := Below.refl _ _
              clear A_t2 A_m2 O_vz hdue
              refine Kw.WL_nil ?_
              refine Kw.QN_block ?_
              refine hK20 _ _ ?_; clear hK20 K20
              refine Kw.WC_seq (fun K68 hK68 => ?_)
              refine Kw.WC_region [some 93, some 94, some 95, some 96, some 92, some 97, some 98, some 10, some 11] rfl ?_
              refine Kw.WL_v rfl rfl rfl (Kw.R_move rfl) ?_
              refine Kw.WL_v rfl rfl rfl (Kw.R_fieldAddr (o' := 1) (k := 1) rfl Try.underlying40 rfl F.sz29 rfl) ?_
              refine Kw.WL_v rfl rfl rfl (Kw.R_loadN (ds := #[.int .i64 k.1, .int .i64 k.2]) rfl Try.underlying29 rfl F.sz29 A_gx (by show _ ≤ 4; decide) (rfl)) ?_
              replace R_rv := R_rv.call HC
              clear HC; have HC : Below w67.heap.size w67 w67 := Below.refl _ _
              have hTe2 := hTe; have hTl2 : T.length ≤ T.length := Nat.le_refl _; have hRl2 : R.length ≤ R.length := Nat.le_refl _
              obtain ⟨u, f, hg⟩ : ∃ u f, (match Kw.tget T k with | some u => (u, true) | none => (0, false)) = (u, f) := ⟨_, _, rfl⟩
              refine Kw.WL_callc rfl rfl rfl rfl F.cl10 rfl (at_c k hk u f tb mb T _ A_tb A_mb L_mb_tb hg) ?_; intro w69 bw69
              replace A_mb := A_mb.call bw69
              replace A_tb := A_tb.call bw69
              replace A_gx := A_gx.call bw69
              replace HB := Kw.Below.then HB (Nat.le_refl _) bw69; replace HC := Kw.Below.then HC (Nat.le_refl _) bw69
              clear bw69
              refine Kw.WL_v rfl rfl rfl (Kw.R_move rfl) ?_
              refine Kw.WL_v rfl rfl rfl (Kw.R_extract (v := .int .i64 u) rfl rfl) ?_
              refine Kw.WL_v rfl rfl rfl (Kw.R_extract (v := .bool f) rfl rfl) ?_
              refine Kw.WL_v rfl rfl rfl (Kw.R_assign rfl) ?_
              refine Kw.WL_v rfl rfl rfl (Kw.R_assign rfl) ?_
              refine Kw.WL_nil ?_
              refine hK68 _ _ ?_; clear hK68 K68
              refine Kw.WC_sub (l' := [(0, .slice (some ⟨g1, o1, none⟩) L.length cap1), (3, .pointer (some ⟨tb, 0, none⟩)), (4, rv), (5, .int .i64 (i : Int)), (6, .pointer (some ⟨gx, 0, none⟩)), (10, .int .i64 u), (11, .bool f)]) (Kw.Sub.cons rfl (Kw.Sub.cons rfl (Kw.Sub.cons rfl (Kw.Sub.cons rfl (Kw.Sub.cons rfl (Kw.Sub.cons rfl (Kw.Sub.cons rfl Kw.Sub.nil))))))) ?_
              refine Kw.WC_seq (fun K70 hK70 => ?_)
              refine Kw.WC_region [some 100, some 101, some 102, some 103, some 99, some 104, some 105, some 12, some 13] rfl ?_
              refine Kw.WL_v rfl rfl rfl (Kw.R_move rfl) ?_
              refine Kw.WL_v rfl rfl rfl (Kw.R_fieldAddr (o' := 1) (k := 1) rfl Try.underlying40 rfl F.sz29 rfl) ?_
              refine Kw.WL_v rfl rfl rfl (Kw.R_loadN (ds := #[.int .i64 k.1, .int .i64 k.2]) rfl Try.underlying29 rfl F.sz29 A_gx (by show _ ≤ 4; decide) (rfl)) ?_
              replace R_rv := R_rv.call HC
              clear HC; have HC : Below w69.heap.size w69 w69 := Below.refl _ _
              refine Kw.WL_callc rfl rfl rfl rfl F.cl17 rfl (refat_c R (hTe2.ok A_mb) (by omega) rv k hk u f w69 R_rv (by rw [hTe2.get]; exact hg)) ?_; intro w71 bw71
              replace A_mb := A_mb.call bw71
              replace A_tb := A_tb.call bw71
              replace A_gx := A_gx.call bw71
              replace HB := Kw.Below.then HB (Nat.le_refl _) bw71; replace HC := Kw.Below.then HC (Nat.le_refl _) bw71
              clear bw71
              refine Kw.WL_v rfl rfl rfl (Kw.R_move rfl) ?_
              refine Kw.WL_v rfl rfl rfl (Kw.R_extract (v := .int .i64 u) rfl rfl) ?_
              refine Kw.WL_v rfl rfl rfl (Kw.R_extract (v := .bool f) rfl rfl) ?_
              refine Kw.WL_v rfl rfl rfl (Kw.R_assign rfl) ?_
              refine Kw.WL_v rfl rfl rfl (Kw.R_assign rfl) ?_
              refine Kw.WL_nil ?_
              refine hK70 _ _ ?_; clear hK70 K70
              refine Kw.WC_sub (l' := [(0, .slice (some ⟨g1, o1, none⟩) L.length cap1), (3, .pointer (some ⟨tb, 0, none⟩)), (4, rv), (5, .int .i64 (i : Int)), (10, .int .i64 u), (11, .bool f), (12, .int .i64 u), (13, .bool f)]) (Kw.Sub.cons rfl (Kw.Sub.cons rfl (Kw.Sub.cons rfl (Kw.Sub.cons rfl (Kw.Sub.cons rfl (Kw.Sub.cons rfl (Kw.Sub.cons rfl (Kw.Sub.cons rfl Kw.Sub.nil)))))))) ?_
              refine Kw.WC_seq (fun K72 hK72 => ?_)
              refine Kw.WC_region [some 106, some 107, some 108, some 109, some 110, some 111, some 112, some 113] rfl ?_
              refine Kw.WL_v rfl rfl rfl (Kw.R_move rfl) ?_
              refine Kw.WL_v rfl rfl rfl (Kw.R_move rfl) ?_
              refine Kw.WL_v rfl rfl rfl (Kw.R_nei (z := false) rfl rfl (decide_eq_true rfl)) ?_
              refine Kw.WL_v rfl rfl rfl (Kw.R_move rfl) ?_
              refine Kw.WL_v rfl rfl rfl (Kw.R_move rfl) ?_
              refine Kw.WL_v rfl rfl rfl (Kw.R_move rfl) ?_
              refine Kw.WL_v rfl rfl rfl (Kw.R_neb (z := false) rfl rfl Try.underlying4 (by cases f <;> rfl)) ?_
              refine Kw.WL_v rfl rfl rfl (Kw.R_pickf rfl rfl) ?_
              refine Kw.WL_nil ?_
              refine hK72 _ _ ?_; clear hK72 K72
              refine Kw.WC_sub (l' := [(0, .slice (some ⟨g1, o1, none⟩) L.length cap1), (3, .pointer (some ⟨tb, 0, none⟩)), (4, rv), (5, .int .i64 (i : Int)), (110, .bool f), (111, .bool f), (112, .bool false), (113, .bool false)]) (Kw.Sub.cons rfl (Kw.Sub.cons rfl (Kw.Sub.cons rfl (Kw.Sub.cons rfl (Kw.Sub.cons rfl (Kw.Sub.cons rfl (Kw.Sub.cons rfl (Kw.Sub.cons rfl Kw.Sub.nil)))))))) ?_
              refine Kw.WC_false rfl ?_
              refine Kw.WC_skip ?_
              refine Kw.QN_block ?_
              refine hK16 _ _ ?_; clear hK16 K16
              refine Kw.WC_region [some 25, some 26, some 5] rfl ?_
              refine Kw.WL_v rfl rfl rfl (Kw.R_move rfl) ?_
              refine Kw.WL_v rfl rfl rfl (Kw.R_add (c := ((i + 1 : Nat) : Int)) rfl rfl (by rw [Kw.wrap_i64 (by omega)]; omega)) ?_
              refine Kw.WL_v rfl rfl rfl (Kw.R_assign rfl) ?_
              refine Kw.WL_nil ?_
              refine Kw.QN_round ((i + 1, T, R, rv)) ⟨⟨by (try dsimp only); omega, by (try dsimp only); omega, by (try dsimp only); omega, hTe2, R_rv.call HC⟩, A_mb, A_tb, HB⟩ (by dsimp only; omega) (Kw.Sub.cons rfl (Kw.Sub.cons rfl (Kw.Sub.cons rfl (Kw.Sub.cons rfl Kw.Sub.nil))))
            ·
              refine Kw.WL_v rfl rfl rfl (Kw.R_eqi (z := false) rfl rfl (decide_eq_false c62)) ?_
              refine Kw.WL_v rfl rfl rfl (Kw.R_assign rfl) ?_
              refine Kw.WL_nil ?_
              refine hK61 _ _ ?_; clear hK61 K61
              refine Kw.WC_false rfl ?_
              refine Kw.WC_seq (fun K74 hK74 => ?_)
              refine Kw.WC_region [some 34, some 35, some 36, some 37] rfl ?_
              refine Kw.WL_v rfl rfl rfl (Kw.R_fieldAddr (o' := 0) (k := 0) rfl Try.underlying40 rfl F.sz5 rfl) ?_
              refine Kw.WL_v rfl rfl rfl (Kw.R_load1 rfl Try.underlying5 rfl A_gx rfl) ?_
              obtain ⟨m9, hm9⟩ : ∃ x : Int, x = q % 8 := ⟨_, rfl⟩
              refine Kw.WL_v rfl rfl rfl (Kw.R_rem (c := m9) rfl rfl (by omega) (by rw [Kw.tmod_pos (by omega)]; rw [hm9])) ?_
              by_cases c75 : (m9 : Int) < 3
              ·
                refine Kw.WL_v rfl rfl rfl (Kw.R_lss (z := true) rfl rfl (decide_eq_true c75)) ?_
                refine Kw.WL_nil ?_
                refine hK74 _ _ ?_; clear hK74 K74
                refine Kw.WC_sub (l' := [(0, .slice (some ⟨g1, o1, none⟩) L.length cap1), (3, .pointer (some ⟨tb, 0, none⟩)), (4, rv), (5, .int .i64 (i : Int)), (6, .pointer (some ⟨gx, 0, none⟩)), (37, .bool true)]) (Kw.Sub.cons rfl (Kw.Sub.cons rfl (Kw.Sub.cons rfl (Kw.Sub.cons rfl (Kw.Sub.cons rfl (Kw.Sub.cons rfl Kw.Sub.nil)))))) ?_
                refine Kw.WC_true rfl ?_
                refine Kw.WC_seq (fun K76 hK76 => ?_)
                refine Kw.WC_region [some 38, some 39, some 40, some 41, some 42, some 43] rfl ?_
                refine Kw.WL_v rfl rfl rfl (Kw.R_move rfl) ?_
                refine Kw.WL_v rfl rfl rfl (Kw.R_fieldAddr (o' := 1) (k := 1) rfl Try.underlying40 rfl F.sz29 rfl) ?_
                refine Kw.WL_v rfl rfl rfl (Kw.R_loadN (ds := #[.int .i64 k.1, .int .i64 k.2]) rfl Try.underlying29 rfl F.sz29 A_gx (by show _ ≤ 4; decide) (rfl)) ?_
                refine Kw.WL_v rfl rfl rfl (Kw.R_fieldAddr (o' := 3) (k := 0) rfl Try.underlying40 rfl F.sz3 rfl) ?_
                refine Kw.WL_v rfl rfl rfl (Kw.R_load1 rfl Try.underlying3 rfl A_gx rfl) ?_
                replace R_rv := R_rv.call HC
                clear HC; have HC : Below w19.heap.size w19 w19 := Below.refl _ _
                have A_mbO := A_mb
                refine Kw.WL_callc rfl rfl rfl rfl F.cl8 rfl (set_c k a hk tb mb T _ A_tb A_mb L_mb_tb) ?_; rintro w77 ⟨B_tb, B_mb, hmut⟩
                clear A_tb A_mb; have A_tb := B_tb; have A_mb : TM w77 mb (Kw.tset T k a) := B_mb; clear B_tb B_mb
                replace A_gx := A_gx.mut hmut (fun e => absurd e (Nat.ne_of_gt L_mb_gx))
                replace R_rv := R_rv.mut hmut A_mbO; clear A_mbO
                replace HB := Kw.Mut.below HB (Nat.le_refl _) hmut (fun k hk => by rw [hk]; exact G_mb); clear hmut
                clear HC; have HC : Below w77.heap.size w77 w77 := Below.refl _ _
                refine Kw.WL_nil ?_
                refine hK76 _ _ ?_; clear hK76 K76
                refine Kw.WC_sub (l' := [(0, .slice (some ⟨g1, o1, none⟩) L.length cap1), (3, .pointer (some ⟨tb, 0, none⟩)), (4, rv), (5, .int .i64 (i : Int)), (6, .pointer (some ⟨gx, 0, none⟩))]) (Kw.Sub.cons rfl (Kw.Sub.cons rfl (Kw.Sub.cons rfl (Kw.Sub.cons rfl (Kw.Sub.cons rfl Kw.Sub.nil))))) ?_
                refine Kw.WC_region [some 44, some 45, some 46, some 47, some 48, some 49, some 4] rfl ?_
                refine Kw.WL_v rfl rfl rfl (Kw.R_move rfl) ?_
                refine Kw.WL_v rfl rfl rfl (Kw.R_fieldAddr (o' := 1) (k := 1) rfl Try.underlying40 rfl F.sz29 rfl) ?_
                refine Kw.WL_v rfl rfl rfl (Kw.R_loadN (ds := #[.int .i64 k.1, .int .i64 k.2]) rfl Try.underlying29 rfl F.sz29 A_gx (by show _ ≤ 4; decide) (rfl)) ?_
                refine Kw.WL_v rfl rfl rfl (Kw.R_fieldAddr (o' := 3) (k := 0) rfl Try.underlying40 rfl F.sz3 rfl) ?_
                refine Kw.WL_v rfl rfl rfl (Kw.R_load1 rfl Try.underlying3 rfl A_gx rfl) ?_
                replace R_rv := R_rv.call HC
                clear HC; have HC : Below w77.heap.size w77 w77 := Below.refl _ _
                refine Kw.WL_call rfl rfl rfl rfl F.cl16 rfl (refset_c R hokR (by omega) rv k hk a w77 R_rv) ?_
                rintro vr w78 ⟨⟨jj, hj1, hj2, hj3, O_vr⟩, bw78⟩
                replace A_mb := A_mb.call bw78
                replace A_tb := A_tb.call bw78
                replace A_gx := A_gx.call bw78
                replace HB := Kw.Below.then HB (Nat.le_refl _) bw78; replace HC := Kw.Below.then HC (Nat.le_refl _) bw78; clear bw78 R_rv
                have R_rv := RdT.own O_vr; clear O_vr
                clear HC; have HC : Below w78.heap.size w78 w78 := Below.refl _ _
                have hTe2 := hTe.set k a hj1 hj2 hj3; have hTl2 := tset_len T k a; have hRl2 := insT_length (clearL R k) jj (k, a); have hRl3 := clearL_len R k
                refine Kw.WL_v rfl rfl rfl (Kw.R_assign rfl) ?_
                refine Kw.WL_nil ?_
                refine Kw.QN_block ?_
                refine hK20 _ _ ?_; clear hK20 K20
                refine Kw.WC_sub (l' := [(0, .slice (some ⟨g1, o1, none⟩) L.length cap1), (3, .pointer (some ⟨tb, 0, none⟩)), (4, vr), (5, .int .i64 (i : Int)), (6, .pointer (some ⟨gx, 0, none⟩))]) (Kw.Sub.cons rfl (Kw.Sub.cons rfl (Kw.Sub.cons rfl (Kw.Sub.cons rfl (Kw.Sub.cons rfl Kw.Sub.nil))))) ?_
                refine Kw.WC_seq (fun K79 hK79 => ?_)
                refine Kw.WC_region [some 93, some 94, some 95, some 96, some 92, some 97, some 98, some 10, some 11] rfl ?_
                refine Kw.WL_v rfl rfl rfl (Kw.R_move rfl) ?_
                refine Kw.WL_v rfl rfl rfl (Kw.R_fieldAddr (o' := 1) (k := 1) rfl Try.underlying40 rfl F.sz29 rfl) ?_
                refine Kw.WL_v rfl rfl rfl (Kw.R_loadN (ds := #[.int .i64 k.1, .int .i64 k.2]) rfl Try.underlying29 rfl F.sz29 A_gx (by show _ ≤ 4; decide) (rfl)) ?_
                replace R_rv := R_rv.call HC
                clear HC; have HC : Below w78.heap.size w78 w78 := Below.refl _ _
                obtain ⟨u, f, hg⟩ : ∃ u f, (match Kw.tget (Kw.tset T k a) k with | some u => (u, true) | none => (0, false)) = (u, f) := ⟨_, _, rfl⟩
                refine Kw.WL_callc rfl rfl rfl rfl F.cl10 rfl (at_c k hk u f tb mb (Kw.tset T k a) _ A_tb A_mb L_mb_tb hg) ?_; intro w80 bw80
                replace A_mb := A_mb.call bw80
                replace A_tb := A_tb.call bw80
                replace A_gx := A_gx.call bw80
                replace HB := Kw.Below.then HB (Nat.le_refl _) bw80; replace HC := Kw.Below.then HC (Nat.le_refl _) bw80
                clear bw80
                refine Kw.WL_v rfl rfl rfl (Kw.R_move rfl) ?_
                refine Kw.WL_v rfl rfl rfl (Kw.R_extract (v := .int .i64 u) rfl rfl) ?_
                refine Kw.WL_v rfl rfl rfl (Kw.R_extract (v := .bool f) rfl rfl) ?_
                refine Kw.WL_v rfl rfl rfl (Kw.R_assign rfl) ?_
                refine Kw.WL_v rfl rfl rfl (Kw.R_assign rfl) ?_
                refine Kw.WL_nil ?_
                refine hK79 _ _ ?_; clear hK79 K79
                refine Kw.WC_sub (l' := [(0, .slice (some ⟨g1, o1, none⟩) L.length cap1), (3, .pointer (some ⟨tb, 0, none⟩)), (4, vr), (5, .int .i64 (i : Int)), (6, .pointer (some ⟨gx, 0, none⟩)), (10, .int .i64 u), (11, .bool f)]) (Kw.Sub.cons rfl (Kw.Sub.cons rfl (Kw.Sub.cons rfl (Kw.Sub.cons rfl (Kw.Sub.cons rfl (Kw.Sub.cons rfl (Kw.Sub.cons rfl Kw.Sub.nil))))))) ?_
                refine Kw.WC_seq (fun K81 hK81 => ?_)
                refine Kw.WC_region [some 100, some 101, some 102, some 103, some 99, some 104, some 105, some 12, some 13] rfl ?_
                refine Kw.WL_v rfl rfl rfl (Kw.R_move rfl) ?_
                refine Kw.WL_v rfl rfl rfl (Kw.R_fieldAddr (o' := 1) (k := 1) rfl Try.underlying40 rfl F.sz29 rfl) ?_
                refine Kw.WL_v rfl rfl rfl (Kw.R_loadN (ds := #[.int .i64 k.1, .int .i64 k.2]) rfl Try.underlying29 rfl F.sz29 A_gx (by show _ ≤ 4; decide) (rfl)) ?_
                replace R_rv := R_rv.call HC
                clear HC; have HC : Below w80.heap.size w80 w80 := Below.refl _ _
                refine Kw.WL_callc rfl rfl rfl rfl F.cl17 rfl (refat_c (insT (clearL R k) jj (k, a)) (hTe2.ok A_mb) (by omega) vr k hk u f w80 R_rv (by rw [hTe2.get]; exact hg)) ?_; intro w82 bw82
                replace A_mb := A_mb.call bw82
                replace A_tb := A_tb.call bw82
                replace A_gx := A_gx.call bw82
                replace HB := Kw.Below.then HB (Nat.le_refl _) bw82; replace HC := Kw.Below.then HC (Nat.le_refl _) bw82
                clear bw82
                refine Kw.WL_v rfl rfl rfl (Kw.R_move rfl) ?_
                refine Kw.WL_v rfl rfl rfl (Kw.R_extract (v := .int .i64 u) rfl rfl) ?_
                refine Kw.WL_v rfl rfl rfl (Kw.R_extract (v := .bool f) rfl rfl) ?_
                refine Kw.WL_v rfl rfl rfl (Kw.R_assign rfl) ?_
                refine Kw.WL_v rfl rfl rfl (Kw.R_assign rfl) ?_
                refine Kw.WL_nil ?_
                refine hK81 _ _ ?_; clear hK81 K81
                refine Kw.WC_sub (l' := [(0, .slice (some ⟨g1, o1, none⟩) L.length cap1), (3, .pointer (some ⟨tb, 0, none⟩)), (4, vr), (5, .int .i64 (i : Int)), (10, .int .i64 u), (11, .bool f), (12, .int .i64 u), (13, .bool f)]) (Kw.Sub.cons rfl (Kw.Sub.cons rfl (Kw.Sub.cons rfl (Kw.Sub.cons rfl (Kw.Sub.cons rfl (Kw.Sub.cons rfl (Kw.Sub.cons rfl (Kw.Sub.cons rfl Kw.Sub.nil)))))))) ?_
                refine Kw.WC_seq (fun K83 hK83 => ?_)
                refine Kw.WC_region [some 106, some 107, some 108, some 109, some 110, some 111, some 112, some 113] rfl ?_
                refine Kw.WL_v rfl rfl rfl (Kw.R_move rfl) ?_
                refine Kw.WL_v rfl rfl rfl (Kw.R_move rfl) ?_
                refine Kw.WL_v rfl rfl rfl (Kw.R_nei (z := false) rfl rfl (decide_eq_true rfl)) ?_
                refine Kw.WL_v rfl rfl rfl (Kw.R_move rfl) ?_
                refine Kw.WL_v rfl rfl rfl (Kw.R_move rfl) ?_
                refine Kw.WL_v rfl rfl rfl (Kw.R_move rfl) ?_
                refine Kw.WL_v rfl rfl rfl (Kw.R_neb (z := false) rfl rfl Try.underlying4 (by cases f <;> rfl)) ?_
                refine Kw.WL_v rfl rfl rfl (Kw.R_pickf rfl rfl) ?_
                refine Kw.WL_nil ?_
                refine hK83 _ _ ?_; clear hK83 K83
                refine Kw.WC_sub (l' := [(0, .slice (some ⟨g1, o1, none⟩) L.length cap1), (3, .pointer (some ⟨tb, 0, none⟩)), (4, vr), (5, .int .i64 (i : Int)), (110, .bool f), (111, .bool f), (112, .bool false), (113, .bool false)]) (Kw.Sub.cons rfl (Kw.Sub.cons rfl (Kw.Sub.cons rfl (Kw.Sub.cons rfl (Kw.Sub.cons rfl (Kw.Sub.cons rfl (Kw.Sub.cons rfl (Kw.Sub.cons rfl Kw.Sub.nil)))))))) ?_
                refine Kw.WC_false rfl ?_
                refine Kw.WC_skip ?_
                refine Kw.QN_block ?_
                refine hK16 _ _ ?_; clear hK16 K16
                refine Kw.WC_region [some 25, some 26, some 5] rfl ?_
                refine Kw.WL_v rfl rfl rfl (Kw.R_move rfl) ?_
                refine Kw.WL_v rfl rfl rfl (Kw.R_add (c := ((i + 1 : Nat) : Int)) rfl rfl (by rw [Kw.wrap_i64 (by omega)]; omega)) ?_
                refine Kw.WL_v rfl rfl rfl (Kw.R_assign rfl) ?_
                refine Kw.WL_nil ?_
                refine Kw.QN_round ((i + 1, (Kw.tset T k a), (insT (clearL R k) jj (k, a)), vr)) ⟨⟨by (try dsimp only); omega, by (try dsimp only); omega, by (try dsimp only); omega, hTe2, R_rv.call HC⟩, A_mb, A_tb, HB⟩ (by dsimp only; omega) (Kw.Sub.cons rfl (Kw.Sub.cons rfl (Kw.Sub.cons rfl (Kw.Sub.cons rfl Kw.Sub.nil))))
              ·
                refine Kw.WL_v rfl rfl rfl (Kw.R_lss (z := false) rfl rfl (decide_eq_false c75)) ?_
                refine Kw.WL_nil ?_
                refine hK74 _ _ ?_; clear hK74 K74
                refine Kw.WC_sub (l' := [(0, .slice (some ⟨g1, o1, none⟩) L.length cap1), (3, .pointer (some ⟨tb, 0, none⟩)), (4, rv), (5, .int .i64 (i : Int)), (6, .pointer (some ⟨gx, 0, none⟩)), (37, .bool false)]) (Kw.Sub.cons rfl (Kw.Sub.cons rfl (Kw.Sub.cons rfl (Kw.Sub.cons rfl (Kw.Sub.cons rfl (Kw.Sub.cons rfl Kw.Sub.nil)))))) ?_
                refine Kw.WC_false rfl ?_
                refine Kw.WC_skip ?_
                refine Kw.QN_block ?_
                refine hK20 _ _ ?_; clear hK20 K20
                refine Kw.WC_seq (fun K85 hK85 => ?_)
                refine Kw.WC_region [some 93, some 94, some 95, some 96, some 92, some 97, some 98, some 10, some 11] rfl ?_
                refine Kw.WL_v rfl rfl rfl (Kw.R_move rfl) ?_
                refine Kw.WL_v rfl rfl rfl (Kw.R_fieldAddr (o' := 1) (k := 1) rfl Try.underlying40 rfl F.sz29 rfl) ?_
                refine Kw.WL_v rfl rfl rfl (Kw.R_loadN (ds := #[.int .i64 k.1, .int .i64 k.2]) rfl Try.underlying29 rfl F.sz29 A_gx (by show _ ≤ 4; decide) (rfl)) ?_
                replace R_rv := R_rv.call HC
                clear HC; have HC : Below w19.heap.size w19 w19 := Below.refl _ _
                have hTe2 := hTe; have hTl2 : T.length ≤ T.length := Nat.le_refl _; have hRl2 : R.length ≤ R.length := Nat.le_refl _
                obtain ⟨u, f, hg⟩ : ∃ u f, (match Kw.tget T k with | some u => (u, true) | none => (0, false)) = (u, f) := ⟨_, _, rfl⟩
                refine Kw.WL_callc rfl rfl rfl rfl F.cl10 rfl (at_c k hk u f tb mb T _ A_tb A_mb L_mb_tb hg) ?_; intro w86 bw86
                replace A_mb := A_mb.call bw86
                replace A_tb := A_tb.call bw86
                replace A_gx := A_gx.call bw86
                replace HB := Kw.Below.then HB (Nat.le_refl _) bw86; replace HC := Kw.Below.then HC (Nat.le_refl _) bw86
                clear bw86
                refine Kw.WL_v rfl rfl rfl (Kw.R_move rfl) ?_
                refine Kw.WL_v rfl rfl rfl (Kw.R_extract (v := .int .i64 u) rfl rfl) ?_
                refine Kw.WL_v rfl rfl rfl (Kw.R_extract (v := .bool f) rfl rfl) ?_
                refine Kw.WL_v rfl rfl rfl (Kw.R_assign rfl) ?_
                refine Kw.WL_v rfl rfl rfl (Kw.R_assign rfl) ?_
                refine Kw.WL_nil ?_
                refine hK85 _ _ ?_; clear hK85 K85
                refine Kw.WC_sub (l' := [(0, .slice (some ⟨g1, o1, none⟩) L.length cap1), (3, .pointer (some ⟨tb, 0, none⟩)), (4, rv), (5, .int .i64 (i : Int)), (6, .pointer (some ⟨gx, 0, none⟩)), (10, .int .i64 u), (11, .bool f)]) (Kw.Sub.cons rfl (Kw.Sub.cons rfl (Kw.Sub.cons rfl (Kw.Sub.cons rfl (Kw.Sub.cons rfl (Kw.Sub.cons rfl (Kw.Sub.cons rfl Kw.Sub.nil))))))) ?_
                refine Kw.WC_seq (fun K87 hK87 => ?_)
                refine Kw.WC_region [some 100, some 101, some 102, some 103, some 99, some 104, some 105, some 12, some 13] rfl ?_
                refine Kw.WL_v rfl rfl rfl (Kw.R_move rfl) ?_
                refine Kw.WL_v rfl rfl rfl (Kw.R_fieldAddr (o' := 1) (k := 1) rfl Try.underlying40 rfl F.sz29 rfl) ?_
                refine Kw.WL_v rfl rfl rfl (Kw.R_loadN (ds := #[.int .i64 k.1, .int .i64 k.2]) rfl Try.underlying29 rfl F.sz29 A_gx (by show _ ≤ 4; decide) (rfl)) ?_
                replace R_rv := R_rv.call HC
                clear HC; have HC : Below w86.heap.size w86 w86 := Below.refl _ _
                refine Kw.WL_callc rfl rfl rfl rfl F.cl17 rfl (refat_c R (hTe2.ok A_mb) (by omega) rv k hk u f w86 R_rv (by rw [hTe2.get]; exact hg)) ?_; intro w88 bw88
                replace A_mb := A_mb.call bw88
                replace A_tb := A_tb.call bw88
                replace A_gx := A_gx.call bw88
                replace HB := Kw.Below.then HB (Nat.le_refl _) bw88; replace HC := Kw.Below.then HC (Nat.le_refl _) bw88
                clear bw88
                refine Kw.WL_v rfl rfl rfl (Kw.R_move rfl) ?_
                refine Kw.WL_v rfl rfl rfl (Kw.R_extract (v := .int .i64 u) rfl rfl) ?_
                refine Kw.WL_v rfl rfl rfl (Kw.R_extract (v := .bool f) rfl rfl) ?_
                refine Kw.WL_v rfl rfl rfl (Kw.R_assign rfl) ?_
                refine Kw.WL_v rfl rfl rfl (Kw.R_assign rfl) ?_
                refine Kw.WL_nil ?_
                refine hK87 _ _ ?_; clear hK87 K87
                refine Kw.WC_sub (l' := [(0, .slice (some ⟨g1, o1, none⟩) L.length cap1), (3, .pointer (some ⟨tb, 0, none⟩)), (4, rv), (5, .int .i64 (i : Int)), (10, .int .i64 u), (11, .bool f), (12, .int .i64 u), (13, .bool f)]) (Kw.Sub.cons rfl (Kw.Sub.cons rfl (Kw.Sub.cons rfl (Kw.Sub.cons rfl (Kw.Sub.cons rfl (Kw.Sub.cons rfl (Kw.Sub.cons rfl (Kw.Sub.cons rfl Kw.Sub.nil)))))))) ?_
                refine Kw.WC_seq (fun K89 hK89 => ?_)
                refine Kw.WC_region [some 106, some 107, some 108, some 109, some 110, some 111, some 112, some 113] rfl ?_
                refine Kw.WL_v rfl rfl rfl (Kw.R_move rfl) ?_
                refine Kw.WL_v rfl rfl rfl (Kw.R_move rfl) ?_
                refine Kw.WL_v rfl rfl rfl (Kw.R_nei (z := false) rfl rfl (decide_eq_true rfl)) ?_
                refine Kw.WL_v rfl rfl rfl (Kw.R_move rfl) ?_
                refine Kw.WL_v rfl rfl rfl (Kw.R_move rfl) ?_
                refine Kw.WL_v rfl rfl rfl (Kw.R_move rfl) ?_
                refine Kw.WL_v rfl rfl rfl (Kw.R_neb (z := false) rfl rfl Try.underlying4 (by cases f <;> rfl)) ?_
                refine Kw.WL_v rfl rfl rfl (Kw.R_pickf rfl rfl) ?_
                refine Kw.WL_nil ?_
                refine hK89 _ _ ?_; clear hK89 K89
                refine Kw.WC_sub (l' := [(0, .slice (some ⟨g1, o1, none⟩) L.length cap1), (3, .pointer (some ⟨tb, 0, none⟩)), (4, rv), (5, .int .i64 (i : Int)), (110, .bool f), (111, .bool f), (112, .bool false), (113, .bool false)]) (Kw.Sub.cons rfl (Kw.Sub.cons rfl (Kw.Sub.cons rfl (Kw.Sub.cons rfl (Kw.Sub.cons rfl (Kw.Sub.cons rfl (Kw.Sub.cons rfl (Kw.Sub.cons rfl Kw.Sub.nil)))))))) ?_
                refine Kw.WC_false rfl ?_
                refine Kw.WC_skip ?_
                refine Kw.QN_block ?_
                refine hK16 _ _ ?_; clear hK16 K16
                refine Kw.WC_region [some 25, some 26, some 5] rfl ?_
                refine Kw.WL_v rfl rfl rfl (Kw.R_move rfl) ?_
                refine Kw.WL_v rfl rfl rfl (Kw.R_add (c := ((i + 1 : Nat) : Int)) rfl rfl (by rw [Kw.wrap_i64 (by omega)]; omega)) ?_
                refine Kw.WL_v rfl rfl rfl (Kw.R_assign rfl) ?_
                refine Kw.WL_nil ?_
                refine Kw.QN_round ((i + 1, T, R, rv)) ⟨⟨by (try dsimp only); omega, by (try dsimp only); omega, by (try dsimp only); omega, hTe2, R_rv.call HC⟩, A_mb, A_tb, HB⟩ (by dsimp only; omega) (Kw.Sub.cons rfl (Kw.Sub.cons rfl (Kw.Sub.cons rfl (Kw.Sub.cons rfl Kw.Sub.nil))))
    ·
      refine Kw.WL_v rfl rfl rfl (Kw.R_lss (z := false) rfl rfl (decide_eq_false c15)) ?_
      refine Kw.WL_nil ?_
      refine hK14 _ _ ?_; clear hK14 K14
      refine Kw.WC_false rfl ?_
      refine Kw.WC_exit ?_
      refine Kw.QE_then ?_; clear hK13 K13
      refine Kw.QE_then ?_
      refine Kw.QE_here ?_
      refine hK10 _ _ ?_; clear hK10 K10
      refine Kw.WC_sub (l' := [(3, .pointer (some ⟨tb, 0, none⟩)), (4, rv)]) (Kw.Sub.cons rfl (Kw.Sub.cons rfl Kw.Sub.nil)) ?_
      refine Kw.WC_seq (fun K91 hK91 => ?_)
      refine Kw.WC_region [some 115, some 116, some 114, some 117, some 118, some 14, some 15] rfl ?_
      refine Kw.WL_v rfl rfl rfl (Kw.R_move rfl) ?_
      replace R_rv := R_rv.call HC
      clear HC; have HC : Below w12.heap.size w12 w12 := Below.refl _ _
      refine Kw.WL_call rfl rfl rfl rfl F.cl13 rfl (refdue_c R (by omega) rv 9223372036854775807 w12 R_rv) ?_; rintro _ w92 ⟨⟨jj, vr, lv, rfl, hj1, hj2, hj3, O_vr, R_lv⟩, bw92⟩
      have D_vr_mb : Kw.ob vr ≠ some mb := fun e => absurd (O_vr.ge e) (Nat.not_le_of_lt A_mb.lt); replace A_mb := A_mb.call bw92
      have D_vr_tb : Kw.ob vr ≠ some tb := fun e => absurd (O_vr.ge e) (Nat.not_le_of_lt A_tb.lt); replace A_tb := A_tb.call bw92
      replace O_vr := O_vr.mono HB.size
      replace HB := Kw.Below.then HB (Nat.le_refl _) bw92; replace HC := Kw.Below.then HC (Nat.le_refl _) bw92; clear bw92 R_rv
      have R_rv := R_lv; clear R_lv
      clear HC; have HC : Below w92.heap.size w92 w92 := Below.refl _ _
      refine Kw.WL_v rfl rfl rfl (Kw.R_move rfl) ?_
      refine Kw.WL_v rfl rfl rfl (Kw.R_extract (v := vr) rfl rfl) ?_
      refine Kw.WL_v rfl rfl rfl (Kw.R_extract (v := lv) rfl rfl) ?_
      refine Kw.WL_v rfl rfl rfl (Kw.R_assign rfl) ?_
      refine Kw.WL_v rfl rfl rfl (Kw.R_assign rfl) ?_
      refine Kw.WL_nil ?_
      refine hK91 _ _ ?_; clear hK91 K91
      refine Kw.WC_sub (l' := [(3, .pointer (some ⟨tb, 0, none⟩)), (14, vr)]) (Kw.Sub.cons rfl (Kw.Sub.cons rfl Kw.Sub.nil)) ?_
      refine Kw.WC_seq (fun K93 hK93 => ?_)
      refine Kw.WC_region [some 119, some 120, some 121, some 122, some 123, some 124, some 125, some 2] rfl ?_
      refine Kw.WL_v rfl rfl rfl (Kw.R_move rfl) ?_
      replace R_rv := R_rv.call HC
      clear HC; have HC : Below w92.heap.size w92 w92 := Below.refl _ _
      have A_mbO := A_mb
      have hdl : T.length ≤ 1000000 := by omega
      refine Kw.WL_call rfl rfl rfl rfl F.cl9 rfl (due_c T 9223372036854775807 hdl tb mb _ A_tb A_mb L_mb_tb) ?_; rintro vk w94 ⟨kvk, hdue, O_vk, B_tb, B_mb, hmut⟩
      have D_vk_mb : Kw.ob vk ≠ some mb := fun e => absurd (O_vk.ge e) (Nat.not_le_of_lt A_mb.lt)
      have D_vk_tb : Kw.ob vk ≠ some tb := fun e => absurd (O_vk.ge e) (Nat.not_le_of_lt A_tb.lt)
      have E_vr_vk : ∀ g, Kw.ob vr = some g → Kw.ob vk ≠ some g := fun g h1 h2 => absurd (O_vk.ge h2) (Nat.not_le_of_lt (O_vr.lt h1))
      replace O_vk := O_vk.mono HB.size
      clear A_tb A_mb; have A_tb := B_tb; have A_mb : TM w94 mb (dropK T kvk) := B_mb; clear B_tb B_mb
      replace O_vr := O_vr.mut hmut (fun g hg e => D_vr_mb (by rw [hg, e]))
      replace R_rv := R_rv.mut hmut A_mbO; clear A_mbO
      replace HB := Kw.Mut.below HB (Nat.le_refl _) hmut (fun k hk => by rw [hk]; exact G_mb); clear hmut
      clear HC; have HC : Below w94.heap.size w94 w94 := Below.refl _ _
      obtain ⟨hks, hTe2⟩ := hTe.due hnd hdue hj1 hj2 hj3; have hTl2 := dropK_len T kvk
      refine Kw.WL_v rfl rfl rfl (Kw.R_move rfl) ?_
      have hsm := same_c vk vr kvk ((R.take jj).map (·.1)) (by rw [hks]; exact take_ok hokR jj) (take_ok hokR jj) (by rw [hks, List.length_map, List.length_take]; omega) w94 (RdK.own O_vk) (RdK.own O_vr)
      rw [decide_eq_true hks] at hsm
      refine Kw.WL_callc rfl rfl rfl rfl F.cl14 rfl (hsm) ?_; intro w95 bw95
      replace A_mb := A_mb.call bw95
      replace A_tb := A_tb.call bw95
      replace HB := Kw.Below.then HB (Nat.le_refl _) bw95; replace HC := Kw.Below.then HC (Nat.le_refl _) bw95
      replace O_vr := O_vr.call bw95
      replace O_vk := O_vk.call bw95
      clear bw95
      clear O_vk O_vr hsm
      have hRl2 : (R.drop jj).length ≤ R.length := by rw [List.length_drop]; omega
      refine Kw.WL_v rfl rfl rfl (Kw.R_move rfl) ?_
      refine Kw.WL_callc rfl rfl rfl rfl F.cl6 rfl (rang_c _) ?_; intro w96 bw96
      replace A_mb := A_mb.call bw96
      replace A_tb := A_tb.call bw96
      replace HB := Kw.Below.then HB (Nat.le_refl _) bw96; replace HC := Kw.Below.then HC (Nat.le_refl _) bw96
      clear bw96
      refine Kw.WL_v rfl rfl rfl (Kw.R_pickt rfl rfl) ?_
      refine Kw.WL_v rfl rfl rfl (Kw.R_assign rfl) ?_
      refine Kw.WL_nil ?_
      refine hK93 _ _ ?_; clear hK93 K93
      refine Kw.WC_sub (l' := [(2, .bool true)]) (Kw.Sub.cons rfl Kw.Sub.nil) ?_
      refine Kw.WC_ret ?_
      exact Kw.post_ret1 rfl rfl ⟨rfl, HB⟩
end Go.Proofs.Ytidoilcgdfhfiaa.Fn
