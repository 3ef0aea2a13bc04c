/- TimersOnce answers true. -/
import Derived.Test.YtidoilcgdfhfiaaTm5
import Derived.Deep.OwnRows
import Derived.Laws.OwnMore
namespace Go.Proofs.Ytidoilcgdfhfiaa.Fn
open Go Go.Proofs Go.RowKit
set_option linter.unusedVariables false
set_option linter.unusedSimpArgs false
theorem tset_len (T : List ((Int × Int) × Int)) (a : Int × Int) (v : Int) : (Kw.tset T a v).length ≤ T.length + 1 := by
  induction T with
  | nil => simp [Kw.tset]
  | cons p T ih =>
    rw [Kw.tset]
    split
    · simp
    · simp only [List.length_cons]; omega
theorem dropK_len (T : List ((Int × Int) × Int)) (ks : List (Int × Int)) : (dropK T ks).length ≤ T.length := by
  induction ks generalizing T with
  | nil => exact Nat.le_refl _
  | cons k ks ih => exact Nat.le_trans (ih (Kw.tdel T k)) (Kw.tdel_sub T k).length_le
theorem tget_drop (ks : List (Int × Int)) : ∀ (T : List ((Int × Int) × Int)), (T.map (·.1)).Nodup → ∀ k, Kw.tget (dropK T ks) k = if k ∈ ks then none else Kw.tget T k := by
  induction ks with
  | nil => intro T h k; simp [dropK]
  | cons a ks ih =>
    intro T h k
    show Kw.tget (dropK (Kw.tdel T a) ks) k = _
    rw [ih _ (Kw.tdel_nodup a h) k, Kw.tget_del h]
    by_cases h1 : k ∈ ks
    · simp [h1]
    · by_cases h2 : a = k
      · simp [h2]
      · rw [if_neg h1, if_neg h2, if_neg]
        intro hk
        rcases List.mem_cons.1 hk with e | e
        · exact h2 e.symm
        · exact h1 e
theorem IsDue.mem {T : List ((Int × Int) × Int)} {now : Int} {ks : List (Int × Int)} (h : IsDue T now ks) (hn : (T.map (·.1)).Nodup) (k : Int × Int) : k ∈ ks ↔ ∃ a, Kw.tget T k = some a ∧ a ≤ now := by
  rw [h.1.mem_iff, dueK_mem]
  constructor
  · rintro ⟨p, hp, h1, rfl⟩
    exact ⟨p.2, Kw.mem_tget hn hp, h1⟩
  · rintro ⟨a, ha, h1⟩
    exact ⟨(k, a), Kw.tget_mem ha, h1, rfl⟩
theorem IsDue.nodup {T : List ((Int × Int) × Int)} {now : Int} {ks : List (Int × Int)} (h : IsDue T now ks) (hn : (T.map (·.1)).Nodup) : ks.Nodup :=
  h.1.nodup_iff.2 (hn.sublist (List.filter_sublist.map _))
theorem IsDue.len {T : List ((Int × Int) × Int)} {now : Int} {ks : List (Int × Int)} (h : IsDue T now ks) : ks.length ≤ T.length := by
  rw [h.1.length_eq]; exact dueK_len _ _
/-- What the table of the law holds: at the keys (j, 0), j below n, what g says; else nothing. -/
def Spec (n : Nat) (T : List ((Int × Int) × Int)) (g : Nat → Option Int) : Prop := ∀ k, Kw.tget T k = if k.2 = 0 ∧ 0 ≤ k.1 ∧ k.1 < n then g k.1.toNat else none
theorem Spec.nil (n : Nat) : Spec n [] (fun _ => none) := fun k => by simp [Kw.tget]
theorem Spec.set {n i : Nat} {T : List ((Int × Int) × Int)} {g : Nat → Option Int} (h : Spec n T g) (hi : i < n) (v : Int) : Spec n (Kw.tset T ((i : Int), 0) v) (fun j => if j = i then some v else g j) := fun k => by
  rw [Kw.tget_set, h k]
  by_cases e : ((i : Int), (0 : Int)) = k
  · subst e
    rw [if_pos rfl, if_pos ⟨rfl, by omega, by show (i : Int) < n; omega⟩]
    simp
  · rw [if_neg e]
    by_cases hk : k.2 = 0 ∧ 0 ≤ k.1 ∧ k.1 < n
    · rw [if_pos hk, if_pos hk]
      have : k.1.toNat ≠ i := fun h2 => e (Prod.ext (by show (i : Int) = k.1; omega) hk.1.symm)
      simp [this]
    · rw [if_neg hk, if_neg hk]
/-- What is still set behind the tick m. -/
def left (B : Nat → Int) (m : Int) (j : Nat) : Option Int := if m < B j then some (B j) else none
theorem Spec.due {n : Nat} {T : List ((Int × Int) × Int)} {B : Nat → Int} {m now : Int} {ks : List (Int × Int)} (h : Spec n T (left B m)) (hn : (T.map (·.1)).Nodup) (hd : IsDue T now ks) (hm : m ≤ now) :
    (∀ k, k ∈ ks ↔ (k.2 = 0 ∧ 0 ≤ k.1 ∧ k.1 < n) ∧ m < B k.1.toNat ∧ B k.1.toNat ≤ now) ∧ Spec n (dropK T ks) (left B now) := by
  have key : ∀ k, k ∈ ks ↔ (k.2 = 0 ∧ 0 ≤ k.1 ∧ k.1 < n) ∧ m < B k.1.toNat ∧ B k.1.toNat ≤ now := fun k => by
    rw [hd.mem hn, h k]
    by_cases hk : k.2 = 0 ∧ 0 ≤ k.1 ∧ k.1 < n
    · rw [if_pos hk]
      unfold left
      by_cases hb : m < B k.1.toNat
      · rw [if_pos hb]
        constructor
        · rintro ⟨a, ha, h1⟩; cases ha; exact ⟨hk, hb, h1⟩
        · rintro ⟨_, _, h1⟩; exact ⟨_, rfl, h1⟩
      · rw [if_neg hb]
        constructor
        · rintro ⟨a, ha, _⟩; cases ha
        · rintro ⟨_, h1, _⟩; exact absurd h1 hb
    · rw [if_neg hk]
      constructor
      · rintro ⟨a, ha, _⟩; cases ha
      · rintro ⟨h1, _⟩; exact absurd h1 hk
  refine ⟨key, fun k => ?_⟩
  rw [tget_drop ks T hn, h k]
  by_cases hk : k.2 = 0 ∧ 0 ≤ k.1 ∧ k.1 < n
  · rw [if_pos hk, if_pos hk]
    unfold left
    by_cases h1 : B k.1.toNat ≤ now
    · rw [if_neg (by omega : ¬ now < B k.1.toNat)]
      by_cases h2 : m < B k.1.toNat
      · rw [if_pos ((key k).2 ⟨hk, h2, h1⟩)]
      · rw [if_neg h2]; split <;> rfl
    · rw [if_neg (fun hc => h1 ((key k).1 hc).2.2), if_pos (by omega : now < B k.1.toNat), if_pos (by omega : m < B k.1.toNat)]
  · rw [if_neg hk, if_neg hk]
    split <;> rfl
def boolsA (D : List Bool) : Array Value := (D.map Value.bool).toArray
theorem boolsA_size (D : List Bool) : (boolsA D).size = D.length := by simp [boolsA]
theorem boolsA_get (D : List Bool) (i : Nat) (h : i < D.length) : (boolsA D)[i]? = some (.bool (D[i]'h)) := by simp [boolsA, h]
theorem boolsA_set (D : List Bool) (i : Nat) (b : Bool) : (boolsA D).setIfInBounds i (.bool b) = boolsA (D.set i b) := by
  apply Array.toList_inj.1
  simp [boolsA, List.map_set]
theorem boolsA_at (D : List Bool) (i : Nat) (h : i < D.length) : (boolsA D)[i]? = some (.bool (D.getD i false)) := by rw [boolsA_get D i h, List.getD_eq_getElem?_getD, List.getElem?_eq_getElem h]; rfl
theorem boolsA_rep (n : Nat) : Array.replicate n (Value.bool false) = boolsA (List.replicate n false) := by
  apply Array.toList_inj.1
  simp [boolsA]
theorem getD_set (D : List Bool) (x : Nat) (hx : x < D.length) (y : Nat) : (D.set x true).getD y false = if y = x then true else D.getD y false := by
  rw [List.getD_eq_getElem?_getD, List.getElem?_set, List.getD_eq_getElem?_getD]
  by_cases e : x = y
  · subst e; simp [hx]
  · rw [if_neg e, if_neg (fun h => e h.symm)]
theorem mk_bools (n : Nat) (h : n ≤ 1000000) (w : World) : (Instr.makeSlice 31 (.int .i64 (n : Int)) (.int .i64 (n : Int))).run Try.prog w = .ok (.slice (some ⟨w.heap.size, 0, none⟩) n n) (w.alloc (.cells (Array.replicate n (.bool false)) 4)) := by
  have hr := run_make_row' (P := Try.prog) 31 4 (.bool false) 1 Try.underlying31 (by kernel_rfl) rfl .i64 .i64 n (by omega) (by omega) w
  have e : madeCells #[.bool false] n = Array.replicate n (.bool false) := by
    apply Array.toList_inj.1
    rw [toList_madeCells_one, Array.toList_replicate]
  rw [e] at hr; exact hr
def fstB (L : List (Int × Int)) (i : Nat) : Int := (L.getD i (0, 0)).1
def sndB (L : List (Int × Int)) (i : Nat) : Int := (L.getD i (0, 0)).2
theorem Spec.congr {n : Nat} {T : List ((Int × Int) × Int)} {g g' : Nat → Option Int} (h : Spec n T g) (he : ∀ j, j < n → g j = g' j) : Spec n T g' := fun k => by
  rw [h k]
  by_cases hk : k.2 = 0 ∧ 0 ≤ k.1 ∧ k.1 < n
  · rw [if_pos hk, if_pos hk]; exact he _ (by omega)
  · rw [if_neg hk, if_neg hk]
theorem Spec.at {n : Nat} {T : List ((Int × Int) × Int)} {g : Nat → Option Int} (h : Spec n T g) {j : Nat} (hj : j < n) : Kw.tget T ((j : Int), 0) = g j := by
  rw [h, if_pos ⟨rfl, by omega, by show (j : Int) < n; omega⟩]; rfl
/-- Pairs of bytes, as they are read; and bytes. -/
def RdP (w : World) (a : Option Addr) (L : List (Int × Int)) : Prop := L = [] ∨ ∃ g o, a = some ⟨g, o, none⟩ ∧ ∀ (i : Nat) (h : i < L.length), w.cell? ⟨g, o + i * 2, none⟩ = some (.int .u8 (fstB L i)) ∧ w.cell? ⟨g, o + i * 2 + 1, none⟩ = some (.int .u8 (sndB L i))
def RdB (w : World) (a : Option Addr) (L : List Int) : Prop := L = [] ∨ ∃ g o, a = some ⟨g, o, none⟩ ∧ ∀ (i : Nat) (h : i < L.length), w.cell? ⟨g, o + i, none⟩ = some (.int .u8 (L.getD i 0))

set_option maxRecDepth 100000 in
set_option maxHeartbeats 4000000 in
theorem TimersOnce_c (a1 a2 : Option Addr) (cap1 cap2 : Nat) (L : List (Int × Int)) (K : List Int) (hA : ∀ i, 0 ≤ fstB L i ∧ fstB L i ≤ 255) (hB : ∀ i, 0 ≤ sndB L i ∧ sndB L i ≤ 255) (hKr : ∀ i, 0 ≤ K.getD i 0 ∧ K.getD i 0 ≤ 255) (w : World) (hR1 : RdP w a1 L) (hR2 : RdB w a2 K) : Calls Try.prog 3 #[.slice a1 L.length cap1, .slice a2 K.length cap2] w fun e w' => e = .returned (.bool true) ∧ Below w.heap.size w w' := by
  have HB : Below w.heap.size w w := Below.refl _ _
  refine Kw.enter Try.func3 rfl Try.ntmps3 rfl rfl ?_
  refine Kw.WC_seq (fun K1 hK1 => ?_)
  refine Kw.WC_region [some 4] rfl ?_
  refine Kw.WL_v rfl rfl rfl (Kw.R_assign rfl) ?_
  refine Kw.WL_nil ?_
  refine hK1 _ _ ?_; clear hK1 K1
  refine Kw.WC_seq (fun K2 hK2 => ?_)
  refine Kw.WC_seq (fun K3 hK3 => ?_)
  refine Kw.WC_region [some 17, some 18, some 19, some 20, some 21, some 22, some 23, some 24] rfl ?_
  refine Kw.WL_v rfl rfl rfl (Kw.R_move rfl) ?_
  refine Kw.WL_v rfl rfl rfl (Kw.R_lenl (n := L.length) Try.underlying22 rfl) ?_
  by_cases c4 : (50 : Int) < (L.length : Int)
  ·
    refine Kw.WL_v rfl rfl rfl (Kw.R_gtr (z := true) rfl rfl (decide_eq_true c4)) ?_
    refine Kw.WL_v rfl rfl rfl (Kw.R_move rfl) ?_
    refine Kw.WL_off rfl rfl rfl ?_
    refine Kw.WL_off rfl rfl rfl ?_
    refine Kw.WL_off rfl rfl rfl ?_
    refine Kw.WL_v rfl rfl rfl (Kw.R_pickt rfl rfl) ?_
    refine Kw.WL_nil ?_
    refine hK3 _ _ ?_; clear hK3 K3
    refine Kw.WC_sub (l' := [(0, .slice a1 L.length cap1), (1, .slice a2 K.length cap2), (24, .bool true)]) (Kw.Sub.cons rfl (Kw.Sub.cons rfl (Kw.Sub.cons rfl Kw.Sub.nil))) ?_
    refine Kw.WC_true rfl ?_
    refine Kw.WC_seq (fun K5 hK5 => ?_)
    refine Kw.WC_region [some 25, some 4] rfl ?_
    refine Kw.WL_callc rfl rfl rfl rfl F.cl6 rfl (rang_c _) ?_; intro w6 bw6
    replace HB := Kw.Below.then HB (Nat.le_refl _) bw6
    clear bw6
    refine Kw.WL_v rfl rfl rfl (Kw.R_assign rfl) ?_
    refine Kw.WL_nil ?_
    refine hK5 _ _ ?_; clear hK5 K5
    refine Kw.WC_ret ?_
    refine Kw.QR_then ?_; clear hK2 K2
    exact Kw.post_ret1 rfl rfl ⟨rfl, HB⟩
  ·
    refine Kw.WL_v rfl rfl rfl (Kw.R_gtr (z := false) rfl rfl (decide_eq_false c4)) ?_
    refine Kw.WL_v rfl rfl rfl (Kw.R_move rfl) ?_
    refine Kw.WL_v rfl rfl rfl (Kw.R_move rfl) ?_
    refine Kw.WL_v rfl rfl rfl (Kw.R_lenl (n := K.length) Try.underlying23 rfl) ?_
    by_cases c7 : (40 : Int) < (K.length : Int)
    ·
      refine Kw.WL_v rfl rfl rfl (Kw.R_gtr (z := true) rfl rfl (decide_eq_true c7)) ?_
      refine Kw.WL_v rfl rfl rfl (Kw.R_pickf rfl rfl) ?_
      refine Kw.WL_nil ?_
      refine hK3 _ _ ?_; clear hK3 K3
      refine Kw.WC_sub (l' := [(0, .slice a1 L.length cap1), (1, .slice a2 K.length cap2), (24, .bool true)]) (Kw.Sub.cons rfl (Kw.Sub.cons rfl (Kw.Sub.cons rfl Kw.Sub.nil))) ?_
      refine Kw.WC_true rfl ?_
      refine Kw.WC_seq (fun K8 hK8 => ?_)
      refine Kw.WC_region [some 25, some 4] rfl ?_
      refine Kw.WL_callc rfl rfl rfl rfl F.cl6 rfl (rang_c _) ?_; intro w9 bw9
      replace HB := Kw.Below.then HB (Nat.le_refl _) bw9
      clear bw9
      refine Kw.WL_v rfl rfl rfl (Kw.R_assign rfl) ?_
      refine Kw.WL_nil ?_
      refine hK8 _ _ ?_; clear hK8 K8
      refine Kw.WC_ret ?_
      refine Kw.QR_then ?_; clear hK2 K2
      exact Kw.post_ret1 rfl rfl ⟨rfl, HB⟩
    ·
      refine Kw.WL_v rfl rfl rfl (Kw.R_gtr (z := false) rfl rfl (decide_eq_false c7)) ?_
      refine Kw.WL_v rfl rfl rfl (Kw.R_pickf rfl rfl) ?_
      refine Kw.WL_nil ?_
      refine hK3 _ _ ?_; clear hK3 K3
      refine Kw.WC_sub (l' := [(0, .slice a1 L.length cap1), (1, .slice a2 K.length cap2), (24, .bool false)]) (Kw.Sub.cons rfl (Kw.Sub.cons rfl (Kw.Sub.cons rfl Kw.Sub.nil))) ?_
      refine Kw.WC_false rfl ?_
      refine Kw.WC_skip ?_
      refine hK2 _ _ ?_; clear hK2 K2
      refine Kw.WC_seq (fun K10 hK10 => ?_)
      refine Kw.WC_region [some 26, some 5] rfl ?_
      refine Kw.WL_call rfl rfl rfl rfl F.cl7 rfl (new_c _) ?_; rintro _ w11 ⟨⟨tb, mb, rfl, L_mb_tb, hmbge, A_tb, A_mb⟩, bw11⟩
      have G_mb : w.heap.size ≤ mb := Nat.le_trans HB.size hmbge
      have G_tb : w.heap.size ≤ tb := by omega
      replace HB := Kw.Below.then HB (Nat.le_refl _) bw11; clear bw11 hmbge
      refine Kw.WL_v rfl rfl rfl (Kw.R_assign rfl) ?_
      refine Kw.WL_nil ?_
      refine hK10 _ _ ?_; clear hK10 K10
      refine Kw.WC_seq (fun K12 hK12 => ?_)
      refine Kw.WC_seq (fun K13 hK13 => ?_)
      refine Kw.WC_region [some 6] rfl ?_
      refine Kw.WL_v rfl rfl rfl (Kw.R_assign rfl) ?_
      refine Kw.WL_nil ?_
      refine hK13 _ _ ?_; clear hK13 K13
      refine Kw.WC_block ?_
      refine Kw.WC_loop (ι := Nat × List ((Int × Int) × Int)) (fun (q : Nat × List ((Int × Int) × Int)) (ww : World) => match q with | ⟨i, T⟩ => (i ≤ L.length ∧ T.length ≤ i ∧ ∃ gg, Spec L.length T gg) ∧ TM ww mb T ∧ Kw.At ww tb #[.map (some mb)] 52 ∧ Below w.heap.size w ww) (fun (q : Nat × List ((Int × Int) × Int)) => match q with | ⟨i, T⟩ => [(0, .slice a1 L.length cap1), (1, .slice a2 K.length cap2), (5, .pointer (some ⟨tb, 0, none⟩)), (6, .int .i64 (i : Int))]) (fun (q : Nat × List ((Int × Int) × Int)) => match q with | ⟨i, T⟩ => L.length - i) (0, []) ⟨⟨Nat.zero_le _, Nat.le_refl _, _, Spec.nil _⟩, A_mb, A_tb, HB⟩ (Kw.Sub.cons rfl (Kw.Sub.cons rfl (Kw.Sub.cons rfl (Kw.Sub.cons rfl Kw.Sub.nil)))) ?_
      clear A_mb
      clear A_tb
      clear HB
      rintro ⟨i, T⟩ w14 ⟨⟨hi, hTl, gg, hS⟩, A_mb, A_tb, HB⟩
      dsimp only at *
      refine Kw.WC_seq (fun K15 hK15 => ?_)
      refine Kw.WC_seq (fun K16 hK16 => ?_)
      refine Kw.WC_region [some 27, some 28, some 29, some 30] rfl ?_
      refine Kw.WL_v rfl rfl rfl (Kw.R_move rfl) ?_
      refine Kw.WL_v rfl rfl rfl (Kw.R_move rfl) ?_
      refine Kw.WL_v rfl rfl rfl (Kw.R_lenl (n := L.length) Try.underlying22 rfl) ?_
      by_cases c17 : ((i : Int) : Int) < (L.length : Int)
      ·
        refine Kw.WL_v rfl rfl rfl (Kw.R_lss (z := true) rfl rfl (decide_eq_true c17)) ?_
        refine Kw.WL_nil ?_
        refine hK16 _ _ ?_; clear hK16 K16
        refine Kw.WC_true rfl ?_
        refine Kw.WC_skip ?_
        refine hK15 _ _ ?_; clear hK15 K15
        refine Kw.WC_seq (fun K18 hK18 => ?_)
        refine Kw.WC_block ?_
        refine Kw.WC_region [some 33, some 34, some 35, some 36, some 37, some 38, some 39, some 40, some 41, some 42] rfl ?_
        refine Kw.WL_v rfl rfl rfl (Kw.R_move rfl) ?_
        refine Kw.WL_v rfl rfl rfl (Kw.R_move rfl) ?_
        refine Kw.WL_v rfl rfl rfl (Kw.R_build (cs := #[.int .i64 (i : Int), .int .i64 0]) rfl (fun w => by kernel_rfl)) ?_
        refine Kw.WL_v rfl rfl rfl (Kw.R_move rfl) ?_
        refine Kw.WL_v rfl rfl rfl (Kw.R_move rfl) ?_
        have hi2 : i < L.length := by omega
        rcases hR1 with rfl | ⟨g1, o1, rfl, hc1⟩
        · exact absurd hi2 (Nat.not_lt_zero _)
        have lt1 := block_lt_of_cell (hc1 i hi2).1; have rA := hA i; have rB := hB i
        refine Kw.WL_v rfl rfl rfl (Kw.R_indexAddrS (i := i) (b := g1) (o := o1) (o' := o1 + i * 2) rfl rfl Try.underlying22 F.sz30 (by omega) (by omega)) ?_
        refine Kw.WL_v rfl rfl rfl (Kw.R_indexAddrA (i := 0) (o' := o1 + i * 2) rfl rfl Try.underlying30 F.sz5 (by decide) (by omega)) ?_
        refine Kw.WL_v rfl rfl rfl (Kw.R_loadc (v := .int .u8 (fstB L i)) rfl Try.underlying5 rfl ((HB.cell (p := ⟨g1, o1 + i * 2, none⟩) lt1).trans (hc1 i hi2).1)) ?_
        refine Kw.WL_v rfl rfl rfl (Kw.R_conv (c := (fstB L i)) Try.underlying5 Try.underlying3 rfl (Kw.wrap_i64 (by omega))) ?_
        refine Kw.WL_callc rfl rfl rfl rfl F.cl8 rfl (set_c ((i : Int), 0) (fstB L i) (by unfold okK; (try dsimp only); omega) tb mb T _ A_tb A_mb L_mb_tb) ?_; rintro w19 ⟨B_tb, B_mb, hmut⟩
        clear A_tb A_mb; have A_tb := B_tb; have A_mb : TM w19 mb (Kw.tset T ((i : Int), 0) (fstB L i)) := by exact B_mb
        clear B_tb B_mb
        replace HB := Kw.Mut.below HB (Nat.le_refl _) hmut (fun k hk => by rw [hk]; exact G_mb)
        clear hmut
        refine Kw.WL_nil ?_
        refine Kw.QN_block ?_
        refine hK18 _ _ ?_; clear hK18 K18
        refine Kw.WC_sub (l' := [(0, .slice (some ⟨g1, o1, none⟩) L.length cap1), (1, .slice a2 K.length cap2), (5, .pointer (some ⟨tb, 0, none⟩)), (6, .int .i64 (i : Int))]) (Kw.Sub.cons rfl (Kw.Sub.cons rfl (Kw.Sub.cons rfl (Kw.Sub.cons rfl Kw.Sub.nil)))) ?_
        refine Kw.WC_region [some 31, some 32, some 6] rfl ?_
        refine Kw.WL_v rfl rfl rfl (Kw.R_move rfl) ?_
        refine Kw.WL_v rfl rfl rfl (Kw.R_add (c := ((i + 1 : Nat) : Int)) rfl rfl (by rw [Kw.wrap_i64 (by omega)]; omega)) ?_
        refine Kw.WL_v rfl rfl rfl (Kw.R_assign rfl) ?_
        refine Kw.WL_nil ?_
        refine Kw.QN_round ((i + 1, Kw.tset T ((i : Int), 0) (fstB L i))) ⟨⟨by omega, Nat.le_trans (tset_len _ _ _) (by omega), _, hS.set hi2 _⟩, A_mb, A_tb, HB⟩ (by dsimp only; omega) (Kw.Sub.cons rfl (Kw.Sub.cons rfl (Kw.Sub.cons rfl (Kw.Sub.cons rfl Kw.Sub.nil))))
      ·
        refine Kw.WL_v rfl rfl rfl (Kw.R_lss (z := false) rfl rfl (decide_eq_false c17)) ?_
        refine Kw.WL_nil ?_
        refine hK16 _ _ ?_; clear hK16 K16
        refine Kw.WC_false rfl ?_
        refine Kw.WC_exit ?_
        refine Kw.QE_then ?_; clear hK15 K15
        refine Kw.QE_then ?_
        refine Kw.QE_here ?_
        refine hK12 _ _ ?_; clear hK12 K12
        refine Kw.WC_seq (fun K20 hK20 => ?_)
        refine Kw.WC_seq (fun K21 hK21 => ?_)
        refine Kw.WC_region [some 7] rfl ?_
        refine Kw.WL_v rfl rfl rfl (Kw.R_assign rfl) ?_
        refine Kw.WL_nil ?_
        refine hK21 _ _ ?_; clear hK21 K21
        refine Kw.WC_block ?_
        refine Kw.WC_loop (ι := Nat × List ((Int × Int) × Int)) (fun (q : Nat × List ((Int × Int) × Int)) (ww : World) => match q with | ⟨i, T⟩ => (i ≤ L.length ∧ T.length ≤ L.length + i ∧ ∃ gg, Spec L.length T gg ∧ ∀ j, j < i → gg j = some (sndB L j)) ∧ TM ww mb T ∧ Kw.At ww tb #[.map (some mb)] 52 ∧ Below w.heap.size w ww) (fun (q : Nat × List ((Int × Int) × Int)) => match q with | ⟨i, T⟩ => [(0, .slice a1 L.length cap1), (1, .slice a2 K.length cap2), (5, .pointer (some ⟨tb, 0, none⟩)), (7, .int .i64 (i : Int))]) (fun (q : Nat × List ((Int × Int) × Int)) => match q with | ⟨i, T⟩ => L.length - i) (0, T) ⟨⟨Nat.zero_le _, by omega, gg, hS, fun j hj => absurd hj (Nat.not_lt_zero _)⟩, A_mb, A_tb, HB⟩ (Kw.Sub.cons rfl (Kw.Sub.cons rfl (Kw.Sub.cons rfl (Kw.Sub.cons rfl Kw.Sub.nil)))) ?_
        clear A_mb
        clear A_tb
        clear HB
        rintro ⟨i, T⟩ w22 ⟨⟨hi, hTl, gg, hS, hgg⟩, A_mb, A_tb, HB⟩
        dsimp only at *
        refine Kw.WC_seq (fun K23 hK23 => ?_)
        refine Kw.WC_seq (fun K24 hK24 => ?_)
        refine Kw.WC_region [some 43, some 44, some 45, some 46] rfl ?_
        refine Kw.WL_v rfl rfl rfl (Kw.R_move rfl) ?_
        refine Kw.WL_v rfl rfl rfl (Kw.R_move rfl) ?_
        refine Kw.WL_v rfl rfl rfl (Kw.R_lenl (n := L.length) Try.underlying22 rfl) ?_
        by_cases c25 : ((i : Int) : Int) < (L.length : Int)
        ·
          refine Kw.WL_v rfl rfl rfl (Kw.R_lss (z := true) rfl rfl (decide_eq_true c25)) ?_
          refine Kw.WL_nil ?_
          refine hK24 _ _ ?_; clear hK24 K24
          refine Kw.WC_true rfl ?_
          refine Kw.WC_skip ?_
          refine hK23 _ _ ?_; clear hK23 K23
          refine Kw.WC_seq (fun K26 hK26 => ?_)
          refine Kw.WC_block ?_
          refine Kw.WC_region [some 49, some 50, some 51, some 52, some 53, some 54, some 55, some 56, some 57, some 58] rfl ?_
          refine Kw.WL_v rfl rfl rfl (Kw.R_move rfl) ?_
          refine Kw.WL_v rfl rfl rfl (Kw.R_move rfl) ?_
          refine Kw.WL_v rfl rfl rfl (Kw.R_build (cs := #[.int .i64 (i : Int), .int .i64 0]) rfl (fun w => by kernel_rfl)) ?_
          refine Kw.WL_v rfl rfl rfl (Kw.R_move rfl) ?_
          refine Kw.WL_v rfl rfl rfl (Kw.R_move rfl) ?_
          have hi2 : i < L.length := by omega
          rcases hR1 with rfl | ⟨g1, o1, rfl, hc1⟩
          · exact absurd hi2 (Nat.not_lt_zero _)
          have lt1 := block_lt_of_cell (hc1 i hi2).1; have rA := hA i; have rB := hB i
          refine Kw.WL_v rfl rfl rfl (Kw.R_indexAddrS (i := i) (b := g1) (o := o1) (o' := o1 + i * 2) rfl rfl Try.underlying22 F.sz30 (by omega) (by omega)) ?_
          refine Kw.WL_v rfl rfl rfl (Kw.R_indexAddrA (i := 1) (o' := o1 + i * 2 + 1) rfl rfl Try.underlying30 F.sz5 (by decide) (by omega)) ?_
          refine Kw.WL_v rfl rfl rfl (Kw.R_loadc (v := .int .u8 (sndB L i)) rfl Try.underlying5 rfl ((HB.cell (p := ⟨g1, o1 + i * 2 + 1, none⟩) lt1).trans (hc1 i hi2).2)) ?_
          refine Kw.WL_v rfl rfl rfl (Kw.R_conv (c := (sndB L i)) Try.underlying5 Try.underlying3 rfl (Kw.wrap_i64 (by omega))) ?_
          refine Kw.WL_callc rfl rfl rfl rfl F.cl8 rfl (set_c ((i : Int), 0) (sndB L i) (by unfold okK; (try dsimp only); omega) tb mb T _ A_tb A_mb L_mb_tb) ?_; rintro w27 ⟨B_tb, B_mb, hmut⟩
          clear A_tb A_mb; have A_tb := B_tb; have A_mb : TM w27 mb (Kw.tset T ((i : Int), 0) (sndB L i)) := by exact B_mb
          clear B_tb B_mb
          replace HB := Kw.Mut.below HB (Nat.le_refl _) hmut (fun k hk => by rw [hk]; exact G_mb)
          clear hmut
          refine Kw.WL_nil ?_
          refine Kw.QN_block ?_
          refine hK26 _ _ ?_; clear hK26 K26
          refine Kw.WC_sub (l' := [(0, .slice (some ⟨g1, o1, none⟩) L.length cap1), (1, .slice a2 K.length cap2), (5, .pointer (some ⟨tb, 0, none⟩)), (7, .int .i64 (i : Int))]) (Kw.Sub.cons rfl (Kw.Sub.cons rfl (Kw.Sub.cons rfl (Kw.Sub.cons rfl Kw.Sub.nil)))) ?_
          refine Kw.WC_region [some 47, some 48, some 7] rfl ?_
          refine Kw.WL_v rfl rfl rfl (Kw.R_move rfl) ?_
          refine Kw.WL_v rfl rfl rfl (Kw.R_add (c := ((i + 1 : Nat) : Int)) rfl rfl (by rw [Kw.wrap_i64 (by omega)]; omega)) ?_
          refine Kw.WL_v rfl rfl rfl (Kw.R_assign rfl) ?_
          refine Kw.WL_nil ?_
          refine Kw.QN_round ((i + 1, Kw.tset T ((i : Int), 0) (sndB L i))) ⟨⟨by omega, Nat.le_trans (tset_len _ _ _) (by omega), _, hS.set hi2 _, fun j hj => by (try dsimp only); by_cases e : j = i; rw [if_pos e, e]; rw [if_neg e]; exact hgg j (by omega)⟩, A_mb, A_tb, HB⟩ (by dsimp only; omega) (Kw.Sub.cons rfl (Kw.Sub.cons rfl (Kw.Sub.cons rfl (Kw.Sub.cons rfl Kw.Sub.nil))))
        ·
          refine Kw.WL_v rfl rfl rfl (Kw.R_lss (z := false) rfl rfl (decide_eq_false c25)) ?_
          refine Kw.WL_nil ?_
          refine hK24 _ _ ?_; clear hK24 K24
          refine Kw.WC_false rfl ?_
          refine Kw.WC_exit ?_
          refine Kw.QE_then ?_; clear hK23 K23
          refine Kw.QE_then ?_
          refine Kw.QE_here ?_
          refine hK20 _ _ ?_; clear hK20 K20
          refine Kw.WC_seq (fun K28 hK28 => ?_)
          refine Kw.WC_region [some 59, some 60, some 61, some 8] rfl ?_
          refine Kw.WL_v rfl rfl rfl (Kw.R_move rfl) ?_
          refine Kw.WL_v rfl rfl rfl (Kw.R_lenl (n := L.length) Try.underlying22 rfl) ?_
          have hS0 : Spec L.length T (left (sndB L) (-1)) := hS.congr fun j hj => by
            have := hB j; rw [hgg j (by omega)]; unfold left; rw [if_pos (by omega)]
          obtain ⟨gt, w29, N_gt⟩ : ∃ b_ w2_, Kw.Newb w22 b_ (Array.replicate L.length (.bool false)) 4 w2_ := ⟨_, _, rfl, rfl⟩
          refine Kw.WL_v rfl rfl rfl (Kw.R_makeSlice (len := L.length) (k := 0) (bytes := 0) rfl rfl Try.underlying31 (mk_bools L.length (by omega)) N_gt) ?_
          have L_mb_gt : mb < gt := (by rw [N_gt.num]; exact A_mb.lt); replace A_mb := A_mb.new N_gt
          have L_tb_gt := N_gt.ne A_tb; replace A_tb := N_gt.keep A_tb
          have A_gt : Kw.At w29 gt (Array.replicate L.length (.bool false)) 4 := N_gt.at_
          have G_gt := N_gt.ge HB (Nat.le_refl _); replace HB := N_gt.below HB (Nat.le_refl _); clear N_gt
          rw [boolsA_rep] at A_gt
          refine Kw.WL_v rfl rfl rfl (Kw.R_assign rfl) ?_
          refine Kw.WL_nil ?_
          refine hK28 _ _ ?_; clear hK28 K28
          refine Kw.WC_sub (l' := [(0, .slice a1 L.length cap1), (1, .slice a2 K.length cap2), (5, .pointer (some ⟨tb, 0, none⟩)), (8, .slice (some ⟨gt, 0, none⟩) L.length L.length)]) (Kw.Sub.cons rfl (Kw.Sub.cons rfl (Kw.Sub.cons rfl (Kw.Sub.cons rfl Kw.Sub.nil)))) ?_
          refine Kw.WC_seq (fun K30 hK30 => ?_)
          refine Kw.WC_region [some 9] rfl ?_
          refine Kw.WL_v rfl rfl rfl (Kw.R_assign rfl) ?_
          refine Kw.WL_nil ?_
          refine hK30 _ _ ?_; clear hK30 K30
          refine Kw.WC_seq (fun K31 hK31 => ?_)
          refine Kw.WC_seq (fun K32 hK32 => ?_)
          refine Kw.WC_region [some 10] rfl ?_
          refine Kw.WL_v rfl rfl rfl (Kw.R_assign rfl) ?_
          refine Kw.WL_nil ?_
          refine hK32 _ _ ?_; clear hK32 K32
          refine Kw.WC_block ?_
          refine Kw.WC_loop (ι := Nat × Int × Int × List ((Int × Int) × Int) × List Bool) (fun (q : Nat × Int × Int × List ((Int × Int) × Int) × List Bool) (ww : World) => match q with | ⟨i, nw, m, T, D⟩ => (i ≤ K.length ∧ (0 ≤ nw ∧ nw ≤ 255 * i) ∧ m ≤ nw ∧ T.length ≤ 100 ∧ D.length = L.length ∧ Spec L.length T (left (sndB L) m) ∧ ∀ y, y < L.length → D.getD y false = decide (sndB L y ≤ m)) ∧ TM ww mb T ∧ Kw.At ww tb #[.map (some mb)] 52 ∧ Kw.At ww gt (boolsA D) 4 ∧ Below w.heap.size w ww) (fun (q : Nat × Int × Int × List ((Int × Int) × Int) × List Bool) => match q with | ⟨i, nw, m, T, D⟩ => [(0, .slice a1 L.length cap1), (1, .slice a2 K.length cap2), (5, .pointer (some ⟨tb, 0, none⟩)), (8, .slice (some ⟨gt, 0, none⟩) L.length L.length), (9, .int .i64 nw), (10, .int .i64 (i : Int))]) (fun (q : Nat × Int × Int × List ((Int × Int) × Int) × List Bool) => match q with | ⟨i, nw, m, T, D⟩ => K.length - i) (0, 0, -1, T, List.replicate L.length false) ⟨⟨Nat.zero_le _, by omega, by omega, by omega, by simp, hS0, fun y hy => by have := hB y; rw [decide_eq_false (by omega)]; simp [hy]⟩, A_mb, A_tb, A_gt, HB⟩ (Kw.Sub.cons rfl (Kw.Sub.cons rfl (Kw.Sub.cons rfl (Kw.Sub.cons rfl (Kw.Sub.cons rfl (Kw.Sub.cons rfl Kw.Sub.nil)))))) ?_
          clear A_mb
          clear A_tb
          clear A_gt
          clear HB
          rintro ⟨i, nw, m, T, D⟩ w33 ⟨⟨hi, hnw, hm, hTl, hDl, hS, hD⟩, A_mb, A_tb, A_gt, HB⟩
          dsimp only at *
          refine Kw.WC_seq (fun K34 hK34 => ?_)
          refine Kw.WC_seq (fun K35 hK35 => ?_)
          refine Kw.WC_region [some 62, some 63, some 64, some 65] rfl ?_
          refine Kw.WL_v rfl rfl rfl (Kw.R_move rfl) ?_
          refine Kw.WL_v rfl rfl rfl (Kw.R_move rfl) ?_
          refine Kw.WL_v rfl rfl rfl (Kw.R_lenl (n := K.length) Try.underlying23 rfl) ?_
          by_cases c36 : ((i : Int) : Int) < (K.length : Int)
          ·
            refine Kw.WL_v rfl rfl rfl (Kw.R_lss (z := true) rfl rfl (decide_eq_true c36)) ?_
            refine Kw.WL_nil ?_
            refine hK35 _ _ ?_; clear hK35 K35
            refine Kw.WC_true rfl ?_
            refine Kw.WC_skip ?_
            refine hK34 _ _ ?_; clear hK34 K34
            refine Kw.WC_seq (fun K37 hK37 => ?_)
            refine Kw.WC_block ?_
            refine Kw.WC_seq (fun K38 hK38 => ?_)
            refine Kw.WC_region [some 68, some 69, some 70, some 71, some 72, some 73, some 74, some 9] rfl ?_
            refine Kw.WL_v rfl rfl rfl (Kw.R_move rfl) ?_
            refine Kw.WL_v rfl rfl rfl (Kw.R_move rfl) ?_
            refine Kw.WL_v rfl rfl rfl (Kw.R_move rfl) ?_
            have hk2 : i < K.length := by omega
            rcases hR2 with rfl | ⟨g2, o2, rfl, hc2⟩
            · exact absurd hk2 (Nat.not_lt_zero _)
            have lt2 := block_lt_of_cell (hc2 i hk2); have rK := hKr i
            refine Kw.WL_v rfl rfl rfl (Kw.R_indexAddrS (i := i) (b := g2) (o := o2) (o' := o2 + i) rfl rfl Try.underlying23 F.sz5 (by omega) (by omega)) ?_
            refine Kw.WL_v rfl rfl rfl (Kw.R_loadc (v := .int .u8 (K.getD i 0)) rfl Try.underlying5 rfl ((HB.cell (p := ⟨g2, o2 + i, none⟩) lt2).trans (hc2 i hk2))) ?_
            refine Kw.WL_v rfl rfl rfl (Kw.R_conv (c := (K.getD i 0)) Try.underlying5 Try.underlying3 rfl (Kw.wrap_i64 (by omega))) ?_
            obtain ⟨nw2, hnw2⟩ : ∃ x : Int, x = nw + (K.getD i 0) := ⟨_, rfl⟩
            refine Kw.WL_v rfl rfl rfl (Kw.R_add (c := nw2) rfl rfl (by rw [Kw.wrap_i64 (by omega)]; rw [hnw2])) ?_
            refine Kw.WL_v rfl rfl rfl (Kw.R_assign rfl) ?_
            refine Kw.WL_nil ?_
            refine hK38 _ _ ?_; clear hK38 K38
            refine Kw.WC_sub (l' := [(0, .slice a1 L.length cap1), (1, .slice (some ⟨g2, o2, none⟩) K.length cap2), (5, .pointer (some ⟨tb, 0, none⟩)), (8, .slice (some ⟨gt, 0, none⟩) L.length L.length), (9, .int .i64 nw2), (10, .int .i64 (i : Int))]) (Kw.Sub.cons rfl (Kw.Sub.cons rfl (Kw.Sub.cons rfl (Kw.Sub.cons rfl (Kw.Sub.cons rfl (Kw.Sub.cons rfl Kw.Sub.nil)))))) ?_
            refine Kw.WC_seq (fun K39 hK39 => ?_)
            refine Kw.WC_region [some 75, some 76, some 77, some 11] rfl ?_
            refine Kw.WL_v rfl rfl rfl (Kw.R_move rfl) ?_
            refine Kw.WL_v rfl rfl rfl (Kw.R_move rfl) ?_
            have hnd := A_mb.nodup K29
            refine Kw.WL_call rfl rfl rfl rfl F.cl9 rfl (due_c T nw2 (by omega) tb mb _ A_tb A_mb L_mb_tb) ?_; rintro vk w40 ⟨kvk, hdue, O_vk, B_tb, B_mb, hmut⟩
            have D_vk_mb : Kw.ob vk ≠ some mb := fun e => absurd (O_vk.ge e) (Nat.not_le_of_lt A_mb.lt)
            have D_vk_tb : Kw.ob vk ≠ some tb := fun e => absurd (O_vk.ge e) (Nat.not_le_of_lt A_tb.lt)
            have D_vk_gt : Kw.ob vk ≠ some gt := fun e => absurd (O_vk.ge e) (Nat.not_le_of_lt A_gt.lt)
            replace O_vk := O_vk.mono HB.size
            clear A_tb A_mb; have A_tb := B_tb; have A_mb : TM w40 mb (dropK T kvk) := B_mb
            clear B_tb B_mb
            replace A_gt := A_gt.mut hmut (fun e => absurd e (Nat.ne_of_gt L_mb_gt))
            replace HB := Kw.Mut.below HB (Nat.le_refl _) hmut (fun k hk => by rw [hk]; exact G_mb)
            clear hmut
            obtain ⟨hkm, hS2⟩ := hS.due hnd hdue (by omega)
            have hkn := hdue.nodup hnd; have hkl := hdue.len; have hTl2 := dropK_len T kvk
            refine Kw.WL_v rfl rfl rfl (Kw.R_assign rfl) ?_
            refine Kw.WL_nil ?_
            refine hK39 _ _ ?_; clear hK39 K39
            refine Kw.WC_seq (fun K41 hK41 => ?_)
            refine Kw.WC_seq (fun K42 hK42 => ?_)
            refine Kw.WC_region [some 12] rfl ?_
            refine Kw.WL_v rfl rfl rfl (Kw.R_assign rfl) ?_
            refine Kw.WL_nil ?_
            refine hK42 _ _ ?_; clear hK42 K42
            refine Kw.WC_block ?_
            refine Kw.WC_loop (ι := Nat × List Bool) (fun (q : Nat × List Bool) (ww : World) => match q with | ⟨j, D⟩ => (j ≤ kvk.length ∧ D.length = L.length ∧ ∀ y, y < L.length → D.getD y false = (decide (sndB L y ≤ m) || decide (((y : Int), (0 : Int)) ∈ kvk.take j))) ∧ TM ww mb (dropK T kvk) ∧ Kw.At ww tb #[.map (some mb)] 52 ∧ Kw.At ww gt (boolsA D) 4 ∧ Kw.Own ww w.heap.size 29 2 vk kvk.length (flatP kvk) ∧ Below w.heap.size w ww) (fun (q : Nat × List Bool) => match q with | ⟨j, D⟩ => [(0, .slice a1 L.length cap1), (1, .slice (some ⟨g2, o2, none⟩) K.length cap2), (5, .pointer (some ⟨tb, 0, none⟩)), (8, .slice (some ⟨gt, 0, none⟩) L.length L.length), (9, .int .i64 nw2), (10, .int .i64 (i : Int)), (11, vk), (12, .int .i64 (j : Int))]) (fun (q : Nat × List Bool) => match q with | ⟨j, D⟩ => kvk.length - j) (0, D) ⟨⟨Nat.zero_le _, hDl, fun y hy => by rw [hD y hy]; simp⟩, A_mb, A_tb, A_gt, O_vk, HB⟩ (Kw.Sub.cons rfl (Kw.Sub.cons rfl (Kw.Sub.cons rfl (Kw.Sub.cons rfl (Kw.Sub.cons rfl (Kw.Sub.cons rfl (Kw.Sub.cons rfl (Kw.Sub.cons rfl Kw.Sub.nil)))))))) ?_
            clear A_mb
            clear A_tb
            clear A_gt
            clear O_vk
            clear HB
            rintro ⟨j, D⟩ w43 ⟨⟨hj, hDl, hD⟩, A_mb, A_tb, A_gt, O_vk, HB⟩
            dsimp only at *
            refine Kw.WC_seq (fun K44 hK44 => ?_)
            refine Kw.WC_seq (fun K45 hK45 => ?_)
            refine Kw.WC_region [some 78, some 79, some 80, some 81] rfl ?_
            refine Kw.WL_v rfl rfl rfl (Kw.R_move rfl) ?_
            refine Kw.WL_v rfl rfl rfl (Kw.R_move rfl) ?_
            refine Kw.WL_v rfl rfl rfl (Kw.R_leno Try.underlying32 rfl O_vk) ?_
            by_cases c46 : ((j : Int) : Int) < ((kvk.length : Nat) : Int)
            ·
              refine Kw.WL_v rfl rfl rfl (Kw.R_lss (z := true) rfl rfl (decide_eq_true c46)) ?_
              refine Kw.WL_nil ?_
              refine hK45 _ _ ?_; clear hK45 K45
              refine Kw.WC_true rfl ?_
              refine Kw.WC_skip ?_
              refine hK44 _ _ ?_; clear hK44 K44
              refine Kw.WC_seq (fun K47 hK47 => ?_)
              refine Kw.WC_block ?_
              refine Kw.WC_seq (fun K48 hK48 => ?_)
              refine Kw.WC_region [some 84, some 85, some 86, some 87, some 88, some 13] rfl ?_
              refine Kw.WL_v rfl rfl rfl (Kw.R_move rfl) ?_
              refine Kw.WL_v rfl rfl rfl (Kw.R_move rfl) ?_
              have hj2 : j < kvk.length := by omega
              obtain ⟨gk, capk, curk, rfl, hBk, A_gk, hck, hsk, htk⟩ := O_vk.open (by omega)
              obtain ⟨kk, hkk⟩ : ∃ k, k = kvk[j]'hj2 := ⟨_, rfl⟩
              have hkk2 := (hkm kk).1 (by rw [hkk]; exact List.getElem_mem hj2)
              obtain ⟨x, hx⟩ : ∃ x : Nat, kk.1 = (x : Int) := ⟨kk.1.toNat, by omega⟩
              have hxn : x < L.length := by omega
              have hxB : m < sndB L x ∧ sndB L x ≤ nw2 := by
                have := hkk2.2; rw [hx, Int.toNat_natCast] at this; exact this
              have hxk : kk = ((x : Int), 0) := Prod.ext hx hkk2.1.1
              have hxD : D.getD x false = false := by
                rw [hD x hxn, decide_eq_false (by omega), Bool.false_or, decide_eq_false]
                rw [← hxk, hkk]
                intro hm
                obtain ⟨q, hq, hqe⟩ := List.getElem_of_mem hm
                rw [List.length_take] at hq
                rw [List.getElem_take] at hqe
                exact (List.pairwise_iff_getElem.1 hkn q j (by omega) hj2 (by omega)) hqe
              refine Kw.WL_v rfl rfl rfl (Kw.R_indexAddrS (i := j) (o' := j * 2) rfl rfl Try.underlying32 F.sz29 (by omega) (by omega)) ?_
              refine Kw.WL_v rfl rfl rfl (Kw.R_indexAddrA (i := 0) (o' := j * 2) rfl rfl Try.underlying29 F.sz3 (by decide) (by omega)) ?_
              refine Kw.WL_v rfl rfl rfl (Kw.R_load1 (v := .int .i64 (x : Int)) rfl Try.underlying3 rfl A_gk (by have e := (flatP_get kvk j hj2).1; rw [← htk, List.getElem?_take, if_pos (by omega), Array.getElem?_toList] at e; rw [show j * 2 = 2 * j by omega, e, ← hkk, hx])) ?_
              refine Kw.WL_v rfl rfl rfl (Kw.R_assign rfl) ?_
              refine Kw.WL_nil ?_
              refine hK48 _ _ ?_; clear hK48 K48
              refine Kw.WC_sub (l' := [(0, .slice a1 L.length cap1), (1, .slice (some ⟨g2, o2, none⟩) K.length cap2), (5, .pointer (some ⟨tb, 0, none⟩)), (8, .slice (some ⟨gt, 0, none⟩) L.length L.length), (9, .int .i64 nw2), (10, .int .i64 (i : Int)), (11, .slice (some ⟨gk, 0, none⟩) kvk.length capk), (12, .int .i64 (j : Int)), (13, .int .i64 (x : Int))]) (Kw.Sub.cons rfl (Kw.Sub.cons rfl (Kw.Sub.cons rfl (Kw.Sub.cons rfl (Kw.Sub.cons rfl (Kw.Sub.cons rfl (Kw.Sub.cons rfl (Kw.Sub.cons rfl (Kw.Sub.cons rfl Kw.Sub.nil))))))))) ?_
              refine Kw.WC_seq (fun K49 hK49 => ?_)
              refine Kw.WC_seq (fun K50 hK50 => ?_)
              refine Kw.WC_region [some 89, some 90, some 91, some 92, some 93, some 94, some 95, some 96, some 97, some 98, some 99, some 100, some 101, some 102, some 103, some 104, some 105, some 106, some 107, some 108, some 109, some 110, some 111, some 112] rfl ?_
              refine Kw.WL_v rfl rfl rfl (Kw.R_move rfl) ?_
              refine Kw.WL_v rfl rfl rfl (Kw.R_lss (z := false) rfl rfl (decide_eq_false (by omega))) ?_
              refine Kw.WL_v rfl rfl rfl (Kw.R_move rfl) ?_
              refine Kw.WL_v rfl rfl rfl (Kw.R_move rfl) ?_
              refine Kw.WL_v rfl rfl rfl (Kw.R_move rfl) ?_
              refine Kw.WL_v rfl rfl rfl (Kw.R_lenl (n := L.length) Try.underlying22 rfl) ?_
              refine Kw.WL_v rfl rfl rfl (Kw.R_geq (z := false) rfl rfl (decide_eq_false (by omega))) ?_
              refine Kw.WL_v rfl rfl rfl (Kw.R_pickf rfl rfl) ?_
              refine Kw.WL_v rfl rfl rfl (Kw.R_move rfl) ?_
              refine Kw.WL_v rfl rfl rfl (Kw.R_move rfl) ?_
              refine Kw.WL_v rfl rfl rfl (Kw.R_move rfl) ?_
              refine Kw.WL_v rfl rfl rfl (Kw.R_indexAddrS (i := x) (o' := x) rfl rfl Try.underlying31 F.sz4 (by omega) (by omega)) ?_
              refine Kw.WL_v rfl rfl rfl (Kw.R_load1 (v := .bool false) rfl Try.underlying4 rfl A_gt (by rw [boolsA_at D x (by omega), hxD])) ?_
              refine Kw.WL_v rfl rfl rfl (Kw.R_pickf rfl rfl) ?_
              refine Kw.WL_v rfl rfl rfl (Kw.R_move rfl) ?_
              refine Kw.WL_v rfl rfl rfl (Kw.R_move rfl) ?_
              refine Kw.WL_v rfl rfl rfl (Kw.R_move rfl) ?_
              have hi2 : x < L.length := by omega
              rcases hR1 with rfl | ⟨g1, o1, rfl, hc1⟩
              · exact absurd hi2 (Nat.not_lt_zero _)
              have lt1 := block_lt_of_cell (hc1 x hi2).1; have rA := hA x; have rB := hB x
              refine Kw.WL_v rfl rfl rfl (Kw.R_indexAddrS (i := x) (b := g1) (o := o1) (o' := o1 + x * 2) rfl rfl Try.underlying22 F.sz30 (by omega) (by omega)) ?_
              refine Kw.WL_v rfl rfl rfl (Kw.R_indexAddrA (i := 1) (o' := o1 + x * 2 + 1) rfl rfl Try.underlying30 F.sz5 (by decide) (by omega)) ?_
              refine Kw.WL_v rfl rfl rfl (Kw.R_loadc (v := .int .u8 (sndB L x)) rfl Try.underlying5 rfl ((HB.cell (p := ⟨g1, o1 + x * 2 + 1, none⟩) lt1).trans (hc1 x hi2).2)) ?_
              refine Kw.WL_v rfl rfl rfl (Kw.R_conv (c := (sndB L x)) Try.underlying5 Try.underlying3 rfl (Kw.wrap_i64 (by omega))) ?_
              refine Kw.WL_v rfl rfl rfl (Kw.R_move rfl) ?_
              refine Kw.WL_v rfl rfl rfl (Kw.R_gtr (z := false) rfl rfl (decide_eq_false (by omega))) ?_
              refine Kw.WL_v rfl rfl rfl (Kw.R_pickf rfl rfl) ?_
              refine Kw.WL_nil ?_
              refine hK50 _ _ ?_; clear hK50 K50
              refine Kw.WC_sub (l' := [(0, .slice (some ⟨g1, o1, none⟩) L.length cap1), (1, .slice (some ⟨g2, o2, none⟩) K.length cap2), (5, .pointer (some ⟨tb, 0, none⟩)), (8, .slice (some ⟨gt, 0, none⟩) L.length L.length), (9, .int .i64 nw2), (10, .int .i64 (i : Int)), (11, .slice (some ⟨gk, 0, none⟩) kvk.length capk), (12, .int .i64 (j : Int)), (13, .int .i64 (x : Int)), (92, .int .i64 (x : Int)), (93, .slice (some ⟨g1, o1, none⟩) L.length cap1), (94, .int .i64 (L.length : Int)), (95, .bool false), (98, .slice (some ⟨gt, 0, none⟩) L.length L.length), (99, .int .i64 (x : Int)), (100, .pointer (some ⟨gt, x, none⟩)), (101, .bool false), (104, .slice (some ⟨g1, o1, none⟩) L.length cap1), (105, .int .i64 (x : Int)), (106, .pointer (some ⟨g1, o1 + x * 2, none⟩)), (107, .pointer (some ⟨g1, o1 + x * 2 + 1, none⟩)), (108, .int .u8 (sndB L x)), (109, .int .i64 (sndB L x)), (110, .int .i64 nw2), (111, .bool false), (112, .bool false)]) (Kw.Sub.cons rfl (Kw.Sub.cons rfl (Kw.Sub.cons rfl (Kw.Sub.cons rfl (Kw.Sub.cons rfl (Kw.Sub.cons rfl (Kw.Sub.cons rfl (Kw.Sub.cons rfl (Kw.Sub.cons rfl (Kw.Sub.cons rfl (Kw.Sub.cons rfl (Kw.Sub.cons rfl (Kw.Sub.cons rfl (Kw.Sub.cons rfl (Kw.Sub.cons rfl (Kw.Sub.cons rfl (Kw.Sub.cons rfl (Kw.Sub.cons rfl (Kw.Sub.cons rfl (Kw.Sub.cons rfl (Kw.Sub.cons rfl (Kw.Sub.cons rfl (Kw.Sub.cons rfl (Kw.Sub.cons rfl (Kw.Sub.cons rfl (Kw.Sub.cons rfl Kw.Sub.nil)))))))))))))))))))))))))) ?_
              refine Kw.WC_false rfl ?_
              refine Kw.WC_skip ?_
              refine hK49 _ _ ?_; clear hK49 K49
              refine Kw.WC_region [some 113, some 114, some 115, none] rfl ?_
              refine Kw.WL_v rfl rfl rfl (Kw.R_move rfl) ?_
              refine Kw.WL_v rfl rfl rfl (Kw.R_move rfl) ?_
              refine Kw.WL_v rfl rfl rfl (Kw.R_indexAddrS (i := x) (o' := x) rfl rfl Try.underlying31 F.sz4 (by omega) (by omega)) ?_
              refine Kw.WL_store1 (ds := boolsA (D.set x true)) rfl rfl rfl F.sz4 A_gt (by rw [boolsA_size]; omega) rfl rfl (boolsA_set D x true) ?_; intro w51 M_gt
              replace A_mb := A_mb.chg M_gt.chg (Nat.ne_of_lt L_mb_gt)
              replace A_tb := M_gt.keep A_tb (Nat.ne_of_lt L_tb_gt)
              replace A_gt : Kw.At w51 gt (boolsA (D.set x true)) 4 := M_gt.at_ A_gt
              replace O_vk := O_vk.wrote M_gt D_vk_gt
              replace HB := M_gt.below HB G_gt; clear M_gt
              refine Kw.WL_nil ?_
              refine Kw.QN_block ?_
              refine hK47 _ _ ?_; clear hK47 K47
              refine Kw.WC_region [some 82, some 83, some 12] rfl ?_
              refine Kw.WL_v rfl rfl rfl (Kw.R_move rfl) ?_
              refine Kw.WL_v rfl rfl rfl (Kw.R_add (c := ((j + 1 : Nat) : Int)) rfl rfl (by rw [Kw.wrap_i64 (by omega)]; omega)) ?_
              refine Kw.WL_v rfl rfl rfl (Kw.R_assign rfl) ?_
              refine Kw.WL_nil ?_
              refine Kw.QN_round ((j + 1, D.set x true)) ⟨⟨by omega, by rw [List.length_set]; exact hDl, fun y hy => by
                  rw [getD_set D x (by omega), List.take_succ_eq_append_getElem hj2, ← hkk, hxk]
                  by_cases e : y = x
                  · subst e; simp
                  · rw [if_neg e, hD y hy]; congr 2; simp; omega⟩, A_mb, A_tb, A_gt, O_vk, HB⟩ (by dsimp only; omega) (Kw.Sub.cons rfl (Kw.Sub.cons rfl (Kw.Sub.cons rfl (Kw.Sub.cons rfl (Kw.Sub.cons rfl (Kw.Sub.cons rfl (Kw.Sub.cons rfl (Kw.Sub.cons rfl Kw.Sub.nil))))))))
            ·
              refine Kw.WL_v rfl rfl rfl (Kw.R_lss (z := false) rfl rfl (decide_eq_false c46)) ?_
              refine Kw.WL_nil ?_
              refine hK45 _ _ ?_; clear hK45 K45
              refine Kw.WC_false rfl ?_
              refine Kw.WC_exit ?_
              refine Kw.QE_then ?_; clear hK44 K44
              refine Kw.QE_then ?_
              refine Kw.QE_here ?_
              refine hK41 _ _ ?_; clear hK41 K41
              refine Kw.WC_sub (l' := [(0, .slice a1 L.length cap1), (1, .slice (some ⟨g2, o2, none⟩) K.length cap2), (5, .pointer (some ⟨tb, 0, none⟩)), (8, .slice (some ⟨gt, 0, none⟩) L.length L.length), (9, .int .i64 nw2), (10, .int .i64 (i : Int))]) (Kw.Sub.cons rfl (Kw.Sub.cons rfl (Kw.Sub.cons rfl (Kw.Sub.cons rfl (Kw.Sub.cons rfl (Kw.Sub.cons rfl Kw.Sub.nil)))))) ?_
              refine Kw.WC_seq (fun K52 hK52 => ?_)
              refine Kw.WC_region [some 14] rfl ?_
              refine Kw.WL_v rfl rfl rfl (Kw.R_assign rfl) ?_
              refine Kw.WL_nil ?_
              refine hK52 _ _ ?_; clear hK52 K52
              refine Kw.WC_block ?_
              have hDn : ∀ y, y < L.length → D.getD y false = decide (sndB L y ≤ nw2) := fun y hy => by
                rw [hD y hy]
                by_cases h1 : sndB L y ≤ m
                · rw [decide_eq_true h1, decide_eq_true (by omega : sndB L y ≤ nw2)]; rfl
                · rw [decide_eq_false h1, Bool.false_or, List.take_of_length_le (by omega)]
                  congr 1
                  apply propext
                  rw [hkm]
                  constructor
                  · rintro ⟨_, _, h2⟩; simpa using h2
                  · intro h2; exact ⟨⟨rfl, by show (0 : Int) ≤ (y : Int); omega, by show (y : Int) < _; omega⟩, by simpa using (by omega : m < sndB L y), by simpa using h2⟩
              refine Kw.WC_loop (ι := Nat) (fun (nn : Nat) (ww : World) => (nn ≤ L.length) ∧ TM ww mb (dropK T kvk) ∧ Kw.At ww tb #[.map (some mb)] 52 ∧ Kw.At ww gt (boolsA D) 4 ∧ Kw.Own ww w.heap.size 29 2 vk kvk.length (flatP kvk) ∧ Below w.heap.size w ww) (fun (nn : Nat) => [(0, .slice a1 L.length cap1), (1, .slice (some ⟨g2, o2, none⟩) K.length cap2), (5, .pointer (some ⟨tb, 0, none⟩)), (8, .slice (some ⟨gt, 0, none⟩) L.length L.length), (9, .int .i64 nw2), (10, .int .i64 (i : Int)), (14, .int .i64 (nn : Int))]) (fun (nn : Nat) => L.length - nn) 0 ⟨Nat.zero_le _, A_mb, A_tb, A_gt, O_vk, HB⟩ (Kw.Sub.cons rfl (Kw.Sub.cons rfl (Kw.Sub.cons rfl (Kw.Sub.cons rfl (Kw.Sub.cons rfl (Kw.Sub.cons rfl (Kw.Sub.cons rfl Kw.Sub.nil))))))) ?_
              clear A_mb
              clear A_tb
              clear A_gt
              clear O_vk
              clear HB
              rintro nn w53 ⟨hnn, A_mb, A_tb, A_gt, O_vk, HB⟩
              refine Kw.WC_seq (fun K54 hK54 => ?_)
              refine Kw.WC_seq (fun K55 hK55 => ?_)
              refine Kw.WC_region [some 116, some 117, some 118, some 119] rfl ?_
              refine Kw.WL_v rfl rfl rfl (Kw.R_move rfl) ?_
              refine Kw.WL_v rfl rfl rfl (Kw.R_move rfl) ?_
              refine Kw.WL_v rfl rfl rfl (Kw.R_lenl (n := L.length) Try.underlying22 rfl) ?_
              by_cases c56 : ((nn : Int) : Int) < (L.length : Int)
              ·
                refine Kw.WL_v rfl rfl rfl (Kw.R_lss (z := true) rfl rfl (decide_eq_true c56)) ?_
                refine Kw.WL_nil ?_
                refine hK55 _ _ ?_; clear hK55 K55
                refine Kw.WC_true rfl ?_
                refine Kw.WC_skip ?_
                refine hK54 _ _ ?_; clear hK54 K54
                refine Kw.WC_seq (fun K57 hK57 => ?_)
                refine Kw.WC_block ?_
                refine Kw.WC_seq (fun K58 hK58 => ?_)
                refine Kw.WC_region [some 123, some 124, some 125, some 126, some 122, some 127, some 128, some 15, some 16] rfl ?_
                refine Kw.WL_v rfl rfl rfl (Kw.R_move rfl) ?_
                refine Kw.WL_v rfl rfl rfl (Kw.R_move rfl) ?_
                refine Kw.WL_v rfl rfl rfl (Kw.R_build (cs := #[.int .i64 (nn : Int), .int .i64 0]) rfl (fun w => by kernel_rfl)) ?_
                have hn2 : nn < L.length := by omega
                have hget := hS2.at hn2; unfold left at hget; have hDq := hDn nn hn2
                by_cases hb : nw2 < sndB L nn
                ·
                  rw [if_pos hb] at hget; rw [decide_eq_false (by omega)] at hDq
                  refine Kw.WL_callc rfl rfl rfl rfl F.cl10 rfl (at_c ((nn : Int), 0) (by unfold okK; (try dsimp only); omega) (sndB L nn) true tb mb (dropK T kvk) _ A_tb A_mb L_mb_tb (by rw [hget])) ?_; intro w59 bw59
                  replace A_mb := A_mb.call bw59
                  replace A_tb := A_tb.call bw59
                  replace A_gt := A_gt.call bw59
                  replace HB := Kw.Below.then HB (Nat.le_refl _) bw59
                  replace O_vk := O_vk.call bw59
                  clear bw59
                  refine Kw.WL_v rfl rfl rfl (Kw.R_move rfl) ?_
                  refine Kw.WL_v rfl rfl rfl (Kw.R_extract (v := .int .i64 (sndB L nn)) rfl rfl) ?_
                  refine Kw.WL_v rfl rfl rfl (Kw.R_extract (v := .bool true) rfl rfl) ?_
                  refine Kw.WL_v rfl rfl rfl (Kw.R_assign rfl) ?_
                  refine Kw.WL_v rfl rfl rfl (Kw.R_assign rfl) ?_
                  refine Kw.WL_nil ?_
                  refine hK58 _ _ ?_; clear hK58 K58
                  refine Kw.WC_sub (l' := [(0, .slice a1 L.length cap1), (1, .slice (some ⟨g2, o2, none⟩) K.length cap2), (5, .pointer (some ⟨tb, 0, none⟩)), (8, .slice (some ⟨gt, 0, none⟩) L.length L.length), (9, .int .i64 nw2), (10, .int .i64 (i : Int)), (14, .int .i64 (nn : Int)), (15, .int .i64 (sndB L nn)), (16, .bool true)]) (Kw.Sub.cons rfl (Kw.Sub.cons rfl (Kw.Sub.cons rfl (Kw.Sub.cons rfl (Kw.Sub.cons rfl (Kw.Sub.cons rfl (Kw.Sub.cons rfl (Kw.Sub.cons rfl (Kw.Sub.cons rfl Kw.Sub.nil))))))))) ?_
                  refine Kw.WC_seq (fun K60 hK60 => ?_)
                  refine Kw.WC_still 33 [some 129, some 130, some 131, some 132, some 133, some 134, some 135, some 136, some 137, some 138, some 139, some 140, some 141, some 142, some 143, some 144, some 145, some 146, some 147, some 148, some 149, some 150, some 151, some 152, some 153, some 154, some 155, some 156, some 157, some 158, some 159, some 160, some 161, some 162] rfl (by kernel_rfl) (by kernel_rfl) ?_
                  simp only [List.take_succ_cons, List.take_zero, List.drop_succ_cons, List.drop_zero]
                  obtain ⟨w61, hww61⟩ : ∃ x : World, x = Go.World.drew w59 := ⟨_, rfl⟩
                  rw [← hww61]
                  replace A_mb : TM w61 mb (dropK T kvk) := by rw [hww61]; exact A_mb
                  replace A_tb : Kw.At w61 tb #[.map (some mb)] 52 := by rw [hww61]; exact A_tb
                  replace A_gt : Kw.At w61 gt (boolsA D) 4 := by rw [hww61]; exact A_gt
                  replace O_vk := O_vk.drew; rw [← hww61] at O_vk
                  replace HB : Below w.heap.size w w61 := by rw [hww61]; exact HB.drew
                  clear hww61
                  refine Kw.WS_v rfl rfl rfl (Kw.R_move rfl) ?_
                  refine Kw.WS_v rfl rfl rfl (Kw.R_move rfl) ?_
                  refine Kw.WS_v rfl rfl rfl (Kw.R_indexAddrS (i := nn) (o' := nn) rfl rfl Try.underlying31 F.sz4 (by omega) (by omega)) ?_
                  refine Kw.WS_v rfl rfl rfl (Kw.R_load1 (v := .bool false) rfl Try.underlying4 rfl A_gt (by rw [boolsA_at D nn (by omega), hDq])) ?_
                  refine Kw.WS_v rfl rfl rfl (Kw.R_move rfl) ?_
                  refine Kw.WS_v rfl rfl rfl (Kw.R_move rfl) ?_
                  have hi2 : nn < L.length := by omega
                  rcases hR1 with rfl | ⟨g1, o1, rfl, hc1⟩
                  · exact absurd hi2 (Nat.not_lt_zero _)
                  have lt1 := block_lt_of_cell (hc1 nn hi2).1; have rA := hA nn; have rB := hB nn
                  refine Kw.WS_v rfl rfl rfl (Kw.R_indexAddrS (i := nn) (b := g1) (o := o1) (o' := o1 + nn * 2) rfl rfl Try.underlying22 F.sz30 (by omega) (by omega)) ?_
                  refine Kw.WS_v rfl rfl rfl (Kw.R_indexAddrA (i := 1) (o' := o1 + nn * 2 + 1) rfl rfl Try.underlying30 F.sz5 (by decide) (by omega)) ?_
                  refine Kw.WS_v rfl rfl rfl (Kw.R_loadc (v := .int .u8 (sndB L nn)) rfl Try.underlying5 rfl ((HB.cell (p := ⟨g1, o1 + nn * 2 + 1, none⟩) lt1).trans (hc1 nn hi2).2)) ?_
                  refine Kw.WS_v rfl rfl rfl (Kw.R_conv (c := (sndB L nn)) Try.underlying5 Try.underlying3 rfl (Kw.wrap_i64 (by omega))) ?_
                  refine Kw.WS_v rfl rfl rfl (Kw.R_move rfl) ?_
                  refine Kw.WS_v rfl rfl rfl (Kw.R_leq (z := false) rfl rfl (decide_eq_false (by omega))) ?_
                  refine Kw.WS_v rfl rfl rfl (Kw.R_neb rfl rfl Try.underlying4 rfl) ?_
                  refine Kw.WS_v rfl rfl rfl (Kw.R_move rfl) ?_
                  refine Kw.WS_v rfl rfl rfl (Kw.R_move rfl) ?_
                  refine Kw.WS_v rfl rfl rfl (Kw.R_move rfl) ?_
                  refine Kw.WS_v rfl rfl rfl (Kw.R_move rfl) ?_
                  refine Kw.WS_v rfl rfl rfl (Kw.R_indexAddrS (i := nn) (o' := nn) rfl rfl Try.underlying31 F.sz4 (by omega) (by omega)) ?_
                  refine Kw.WS_v rfl rfl rfl (Kw.R_load1 (v := .bool false) rfl Try.underlying4 rfl A_gt (by rw [boolsA_at D nn (by omega), hDq])) ?_
                  refine Kw.WS_v rfl rfl rfl (Kw.R_eqb rfl rfl Try.underlying4 rfl) ?_
                  refine Kw.WS_v rfl rfl rfl (Kw.R_pickf rfl rfl) ?_
                  refine Kw.WS_v rfl rfl rfl (Kw.R_move rfl) ?_
                  refine Kw.WS_v rfl rfl rfl (Kw.R_move rfl) ?_
                  refine Kw.WS_v rfl rfl rfl (Kw.R_move rfl) ?_
                  refine Kw.WS_v rfl rfl rfl (Kw.R_move rfl) ?_
                  refine Kw.WS_v rfl rfl rfl (Kw.R_move rfl) ?_
                  refine Kw.WS_v rfl rfl rfl (Kw.R_move rfl) ?_
                  refine Kw.WS_v rfl rfl rfl (Kw.R_indexAddrS (i := nn) (b := g1) (o := o1) (o' := o1 + nn * 2) rfl rfl Try.underlying22 F.sz30 (by omega) (by omega)) ?_
                  refine Kw.WS_v rfl rfl rfl (Kw.R_indexAddrA (i := 1) (o' := o1 + nn * 2 + 1) rfl rfl Try.underlying30 F.sz5 (by decide) (by omega)) ?_
                  refine Kw.WS_v rfl rfl rfl (Kw.R_loadc (v := .int .u8 (sndB L nn)) rfl Try.underlying5 rfl ((HB.cell (p := ⟨g1, o1 + nn * 2 + 1, none⟩) lt1).trans (hc1 nn hi2).2)) ?_
                  refine Kw.WS_v rfl rfl rfl (Kw.R_conv (c := (sndB L nn)) Try.underlying5 Try.underlying3 rfl (Kw.wrap_i64 (by omega))) ?_
                  refine Kw.WS_v rfl rfl rfl (Kw.R_nei (z := false) rfl rfl (decide_eq_true rfl)) ?_
                  refine Kw.WS_v rfl rfl rfl (Kw.R_pickt rfl rfl) ?_
                  refine Kw.WS_nil ?_
                  refine Kw.WL_v rfl rfl rfl (Kw.R_pickf rfl rfl) ?_
                  refine Kw.WL_nil ?_
                  refine hK60 _ _ ?_; clear hK60 K60
                  refine Kw.WC_sub (l' := [(0, .slice (some ⟨g1, o1, none⟩) L.length cap1), (1, .slice (some ⟨g2, o2, none⟩) K.length cap2), (5, .pointer (some ⟨tb, 0, none⟩)), (8, .slice (some ⟨gt, 0, none⟩) L.length L.length), (9, .int .i64 nw2), (10, .int .i64 (i : Int)), (14, .int .i64 (nn : Int)), (143, .bool true), (144, .slice (some ⟨gt, 0, none⟩) L.length L.length), (145, .int .i64 (nn : Int)), (146, .pointer (some ⟨gt, nn, none⟩)), (147, .bool false), (148, .bool false), (151, .bool true), (152, .bool true), (153, .int .i64 (sndB L nn)), (154, .slice (some ⟨g1, o1, none⟩) L.length cap1), (155, .int .i64 (nn : Int)), (156, .pointer (some ⟨g1, o1 + nn * 2, none⟩)), (157, .pointer (some ⟨g1, o1 + nn * 2 + 1, none⟩)), (158, .int .u8 (sndB L nn)), (159, .int .i64 (sndB L nn)), (160, .bool false), (161, .bool false), (162, .bool false)]) (Kw.Sub.cons rfl (Kw.Sub.cons rfl (Kw.Sub.cons rfl (Kw.Sub.cons rfl (Kw.Sub.cons rfl (Kw.Sub.cons rfl (Kw.Sub.cons rfl (Kw.Sub.cons rfl (Kw.Sub.cons rfl (Kw.Sub.cons rfl (Kw.Sub.cons rfl (Kw.Sub.cons rfl (Kw.Sub.cons rfl (Kw.Sub.cons rfl (Kw.Sub.cons rfl (Kw.Sub.cons rfl (Kw.Sub.cons rfl (Kw.Sub.cons rfl (Kw.Sub.cons rfl (Kw.Sub.cons rfl (Kw.Sub.cons rfl (Kw.Sub.cons rfl (Kw.Sub.cons rfl (Kw.Sub.cons rfl (Kw.Sub.cons rfl Kw.Sub.nil))))))))))))))))))))))))) ?_
                  refine Kw.WC_false rfl ?_
                  refine Kw.WC_skip ?_
                  refine Kw.QN_block ?_
                  refine hK57 _ _ ?_; clear hK57 K57
                  refine Kw.WC_region [some 120, some 121, some 14] rfl ?_
                  refine Kw.WL_v rfl rfl rfl (Kw.R_move rfl) ?_
                  refine Kw.WL_v rfl rfl rfl (Kw.R_add (c := ((nn + 1 : Nat) : Int)) rfl rfl (by rw [Kw.wrap_i64 (by omega)]; omega)) ?_
                  refine Kw.WL_v rfl rfl rfl (Kw.R_assign rfl) ?_
                  refine Kw.WL_nil ?_
                  refine Kw.QN_round (nn + 1) ⟨by omega, A_mb, A_tb, A_gt, O_vk, HB⟩ (by omega) (Kw.Sub.cons rfl (Kw.Sub.cons rfl (Kw.Sub.cons rfl (Kw.Sub.cons rfl (Kw.Sub.cons rfl (Kw.Sub.cons rfl (Kw.Sub.cons rfl Kw.Sub.nil)))))))
                ·
                  rw [if_neg hb] at hget; rw [decide_eq_true (by omega)] at hDq
                  refine Kw.WL_callc rfl rfl rfl rfl F.cl10 rfl (at_c ((nn : Int), 0) (by unfold okK; (try dsimp only); omega) 0 false tb mb (dropK T kvk) _ A_tb A_mb L_mb_tb (by rw [hget])) ?_; intro w64 bw64
                  replace A_mb := A_mb.call bw64
                  replace A_tb := A_tb.call bw64
                  replace A_gt := A_gt.call bw64
                  replace HB := Kw.Below.then HB (Nat.le_refl _) bw64
                  replace O_vk := O_vk.call bw64
                  clear bw64
                  refine Kw.WL_v rfl rfl rfl (Kw.R_move rfl) ?_
                  refine Kw.WL_v rfl rfl rfl (Kw.R_extract (v := .int .i64 0) rfl rfl) ?_
                  refine Kw.WL_v rfl rfl rfl (Kw.R_extract (v := .bool false) rfl rfl) ?_
                  refine Kw.WL_v rfl rfl rfl (Kw.R_assign rfl) ?_
                  refine Kw.WL_v rfl rfl rfl (Kw.R_assign rfl) ?_
                  refine Kw.WL_nil ?_
                  refine hK58 _ _ ?_; clear hK58 K58
                  refine Kw.WC_sub (l' := [(0, .slice a1 L.length cap1), (1, .slice (some ⟨g2, o2, none⟩) K.length cap2), (5, .pointer (some ⟨tb, 0, none⟩)), (8, .slice (some ⟨gt, 0, none⟩) L.length L.length), (9, .int .i64 nw2), (10, .int .i64 (i : Int)), (14, .int .i64 (nn : Int)), (15, .int .i64 0), (16, .bool false)]) (Kw.Sub.cons rfl (Kw.Sub.cons rfl (Kw.Sub.cons rfl (Kw.Sub.cons rfl (Kw.Sub.cons rfl (Kw.Sub.cons rfl (Kw.Sub.cons rfl (Kw.Sub.cons rfl (Kw.Sub.cons rfl Kw.Sub.nil))))))))) ?_
                  refine Kw.WC_seq (fun K65 hK65 => ?_)
                  refine Kw.WC_still 33 [some 129, some 130, some 131, some 132, some 133, some 134, some 135, some 136, some 137, some 138, some 139, some 140, some 141, some 142, some 143, some 144, some 145, some 146, some 147, some 148, some 149, some 150, some 151, some 152, some 153, some 154, some 155, some 156, some 157, some 158, some 159, some 160, some 161, some 162] rfl (by kernel_rfl) (by kernel_rfl) ?_
                  simp only [List.take_succ_cons, List.take_zero, List.drop_succ_cons, List.drop_zero]
                  obtain ⟨w66, hww66⟩ : ∃ x : World, x = Go.World.drew w64 := ⟨_, rfl⟩
                  rw [← hww66]
                  replace A_mb : TM w66 mb (dropK T kvk) := by rw [hww66]; exact A_mb
                  replace A_tb : Kw.At w66 tb #[.map (some mb)] 52 := by rw [hww66]; exact A_tb
                  replace A_gt : Kw.At w66 gt (boolsA D) 4 := by rw [hww66]; exact A_gt
                  replace O_vk := O_vk.drew; rw [← hww66] at O_vk
                  replace HB : Below w.heap.size w w66 := by rw [hww66]; exact HB.drew
                  clear hww66
                  refine Kw.WS_v rfl rfl rfl (Kw.R_move rfl) ?_
                  refine Kw.WS_v rfl rfl rfl (Kw.R_move rfl) ?_
                  refine Kw.WS_v rfl rfl rfl (Kw.R_indexAddrS (i := nn) (o' := nn) rfl rfl Try.underlying31 F.sz4 (by omega) (by omega)) ?_
                  refine Kw.WS_v rfl rfl rfl (Kw.R_load1 (v := .bool true) rfl Try.underlying4 rfl A_gt (by rw [boolsA_at D nn (by omega), hDq])) ?_
                  refine Kw.WS_v rfl rfl rfl (Kw.R_move rfl) ?_
                  refine Kw.WS_v rfl rfl rfl (Kw.R_move rfl) ?_
                  have hi2 : nn < L.length := by omega
                  rcases hR1 with rfl | ⟨g1, o1, rfl, hc1⟩
                  · exact absurd hi2 (Nat.not_lt_zero _)
                  have lt1 := block_lt_of_cell (hc1 nn hi2).1; have rA := hA nn; have rB := hB nn
                  refine Kw.WS_v rfl rfl rfl (Kw.R_indexAddrS (i := nn) (b := g1) (o := o1) (o' := o1 + nn * 2) rfl rfl Try.underlying22 F.sz30 (by omega) (by omega)) ?_
                  refine Kw.WS_v rfl rfl rfl (Kw.R_indexAddrA (i := 1) (o' := o1 + nn * 2 + 1) rfl rfl Try.underlying30 F.sz5 (by decide) (by omega)) ?_
                  refine Kw.WS_v rfl rfl rfl (Kw.R_loadc (v := .int .u8 (sndB L nn)) rfl Try.underlying5 rfl ((HB.cell (p := ⟨g1, o1 + nn * 2 + 1, none⟩) lt1).trans (hc1 nn hi2).2)) ?_
                  refine Kw.WS_v rfl rfl rfl (Kw.R_conv (c := (sndB L nn)) Try.underlying5 Try.underlying3 rfl (Kw.wrap_i64 (by omega))) ?_
                  refine Kw.WS_v rfl rfl rfl (Kw.R_move rfl) ?_
                  refine Kw.WS_v rfl rfl rfl (Kw.R_leq (z := true) rfl rfl (decide_eq_true (by omega))) ?_
                  refine Kw.WS_v rfl rfl rfl (Kw.R_neb rfl rfl Try.underlying4 rfl) ?_
                  refine Kw.WS_v rfl rfl rfl (Kw.R_move rfl) ?_
                  refine Kw.WS_v rfl rfl rfl (Kw.R_move rfl) ?_
                  refine Kw.WS_v rfl rfl rfl (Kw.R_move rfl) ?_
                  refine Kw.WS_v rfl rfl rfl (Kw.R_move rfl) ?_
                  refine Kw.WS_v rfl rfl rfl (Kw.R_indexAddrS (i := nn) (o' := nn) rfl rfl Try.underlying31 F.sz4 (by omega) (by omega)) ?_
                  refine Kw.WS_v rfl rfl rfl (Kw.R_load1 (v := .bool true) rfl Try.underlying4 rfl A_gt (by rw [boolsA_at D nn (by omega), hDq])) ?_
                  refine Kw.WS_v rfl rfl rfl (Kw.R_eqb rfl rfl Try.underlying4 rfl) ?_
                  refine Kw.WS_v rfl rfl rfl (Kw.R_pickf rfl rfl) ?_
                  refine Kw.WS_v rfl rfl rfl (Kw.R_move rfl) ?_
                  refine Kw.WS_v rfl rfl rfl (Kw.R_move rfl) ?_
                  refine Kw.WS_v rfl rfl rfl (Kw.R_move rfl) ?_
                  refine Kw.WS_off rfl rfl rfl ?_
                  refine Kw.WS_off rfl rfl rfl ?_
                  refine Kw.WS_off rfl rfl rfl ?_
                  refine Kw.WS_off rfl rfl rfl ?_
                  refine Kw.WS_off rfl rfl rfl ?_
                  refine Kw.WS_off rfl rfl rfl ?_
                  refine Kw.WS_off rfl rfl rfl ?_
                  refine Kw.WS_off rfl rfl rfl ?_
                  refine Kw.WS_v rfl rfl rfl (Kw.R_pickf rfl rfl) ?_
                  refine Kw.WS_nil ?_
                  refine Kw.WL_v rfl rfl rfl (Kw.R_pickf rfl rfl) ?_
                  refine Kw.WL_nil ?_
                  refine hK65 _ _ ?_; clear hK65 K65
                  refine Kw.WC_sub (l' := [(0, .slice (some ⟨g1, o1, none⟩) L.length cap1), (1, .slice (some ⟨g2, o2, none⟩) K.length cap2), (5, .pointer (some ⟨tb, 0, none⟩)), (8, .slice (some ⟨gt, 0, none⟩) L.length L.length), (9, .int .i64 nw2), (10, .int .i64 (i : Int)), (14, .int .i64 (nn : Int)), (143, .bool false), (144, .slice (some ⟨gt, 0, none⟩) L.length L.length), (145, .int .i64 (nn : Int)), (146, .pointer (some ⟨gt, nn, none⟩)), (147, .bool true), (148, .bool false), (151, .bool false), (152, .bool false), (153, undef), (154, undef), (155, undef), (156, undef), (157, undef), (158, undef), (159, undef), (160, undef), (161, .bool false), (162, .bool false)]) (Kw.Sub.cons rfl (Kw.Sub.cons rfl (Kw.Sub.cons rfl (Kw.Sub.cons rfl (Kw.Sub.cons rfl (Kw.Sub.cons rfl (Kw.Sub.cons rfl (Kw.Sub.cons rfl (Kw.Sub.cons rfl (Kw.Sub.cons rfl (Kw.Sub.cons rfl (Kw.Sub.cons rfl (Kw.Sub.cons rfl (Kw.Sub.cons rfl (Kw.Sub.cons rfl (Kw.Sub.cons rfl (Kw.Sub.cons rfl (Kw.Sub.cons rfl (Kw.Sub.cons rfl (Kw.Sub.cons rfl (Kw.Sub.cons rfl (Kw.Sub.cons rfl (Kw.Sub.cons rfl (Kw.Sub.cons rfl (Kw.Sub.cons rfl Kw.Sub.nil))))))))))))))))))))))))) ?_
                  refine Kw.WC_false rfl ?_
                  refine Kw.WC_skip ?_
                  refine Kw.QN_block ?_
                  refine hK57 _ _ ?_; clear hK57 K57
                  refine Kw.WC_region [some 120, some 121, some 14] rfl ?_
                  refine Kw.WL_v rfl rfl rfl (Kw.R_move rfl) ?_
                  refine Kw.WL_v rfl rfl rfl (Kw.R_add (c := ((nn + 1 : Nat) : Int)) rfl rfl (by rw [Kw.wrap_i64 (by omega)]; omega)) ?_
                  refine Kw.WL_v rfl rfl rfl (Kw.R_assign rfl) ?_
                  refine Kw.WL_nil ?_
                  refine Kw.QN_round (nn + 1) ⟨by omega, A_mb, A_tb, A_gt, O_vk, HB⟩ (by omega) (Kw.Sub.cons rfl (Kw.Sub.cons rfl (Kw.Sub.cons rfl (Kw.Sub.cons rfl (Kw.Sub.cons rfl (Kw.Sub.cons rfl (Kw.Sub.cons rfl Kw.Sub.nil)))))))
              ·
                refine Kw.WL_v rfl rfl rfl (Kw.R_lss (z := false) rfl rfl (decide_eq_false c56)) ?_
                refine Kw.WL_nil ?_
                refine hK55 _ _ ?_; clear hK55 K55
                refine Kw.WC_false rfl ?_
                refine Kw.WC_exit ?_
                refine Kw.QE_then ?_; clear hK54 K54
                refine Kw.QE_then ?_
                refine Kw.QE_here ?_
                refine Kw.QN_block ?_
                refine hK37 _ _ ?_; clear hK37 K37
                refine Kw.WC_region [some 66, some 67, some 10] rfl ?_
                refine Kw.WL_v rfl rfl rfl (Kw.R_move rfl) ?_
                refine Kw.WL_v rfl rfl rfl (Kw.R_add (c := ((i + 1 : Nat) : Int)) rfl rfl (by rw [Kw.wrap_i64 (by omega)]; omega)) ?_
                refine Kw.WL_v rfl rfl rfl (Kw.R_assign rfl) ?_
                refine Kw.WL_nil ?_
                refine Kw.QN_round ((i + 1, nw2, nw2, dropK T kvk, D)) ⟨⟨by (try dsimp only); omega, by (try dsimp only); omega, Int.le_refl _, by (try dsimp only); omega, hDl, hS2, hDn⟩, A_mb, A_tb, A_gt, HB⟩ (by dsimp only; omega) (Kw.Sub.cons rfl (Kw.Sub.cons rfl (Kw.Sub.cons rfl (Kw.Sub.cons rfl (Kw.Sub.cons rfl (Kw.Sub.cons rfl Kw.Sub.nil))))))
          ·
            refine Kw.WL_v rfl rfl rfl (Kw.R_lss (z := false) rfl rfl (decide_eq_false c36)) ?_
            refine Kw.WL_nil ?_
            refine hK35 _ _ ?_; clear hK35 K35
            refine Kw.WC_false rfl ?_
            refine Kw.WC_exit ?_
            refine Kw.QE_then ?_; clear hK34 K34
            refine Kw.QE_then ?_
            refine Kw.QE_here ?_
            refine hK31 _ _ ?_; clear hK31 K31
            refine Kw.WC_sub (l' := []) Kw.Sub.nil ?_
            refine Kw.WC_seq (fun K69 hK69 => ?_)
            refine Kw.WC_region [some 163, some 4] rfl ?_
            refine Kw.WL_callc rfl rfl rfl rfl F.cl6 rfl (rang_c _) ?_; intro w70 bw70
            replace A_mb := A_mb.call bw70
            replace A_tb := A_tb.call bw70
            replace A_gt := A_gt.call bw70
            replace HB := Kw.Below.then HB (Nat.le_refl _) bw70
            clear bw70
            refine Kw.WL_v rfl rfl rfl (Kw.R_assign rfl) ?_
            refine Kw.WL_nil ?_
            refine hK69 _ _ ?_; clear hK69 K69
            refine Kw.WC_ret ?_
            exact Kw.post_ret1 rfl rfl ⟨rfl, HB⟩
end Go.Proofs.Ytidoilcgdfhfiaa.Fn
