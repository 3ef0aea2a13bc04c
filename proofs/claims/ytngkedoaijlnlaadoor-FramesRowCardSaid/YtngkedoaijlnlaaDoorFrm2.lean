/- What stands at a place, and all frames from the front on, as contracts of the program. -/
import Derived.Test.YtngkedoaijlnlaaDoorFrm1
namespace Go.Proofs.YtngkedoaijlnlaaDoor.Fn
open Go Go.Proofs Go.RowKit Go.Proofs.YtngkedoaijlnlaaDoorW.PrintWords Go.Proofs.YtngkedoaijlnlaaDoorW.PrintLast Go.Proofs.YtngkedoaijlnlaaDoorW.PrintMore
set_option linter.unusedVariables false
set_option linter.unusedSimpArgs false
theorem cut_size {b p : ByteArray} (h : cutV b = some p) : 12 + p.size ≤ b.size ∧ p.size ≤ 65536 := by
  unfold cutV at h
  split at h
  · rename_i hc
    have := Option.some.inj h
    rw [← this, ByteArray.size_extract]; omega
  · cases h
theorem OwnAt {w : World} {B e g n cap : Nat} {xs : List Value} (h : Kw.Own w B e 1 (.slice (some ⟨g, 0, none⟩) n cap) n xs) : ∃ cur, Kw.At w g cur e ∧ n ≤ cap ∧ cap ≤ 9223372036854775807 ∧ (cur.toList.drop 0).take n = xs := by
  rcases h.2 with ⟨h1, _⟩ | ⟨g', cap', cur, h1, _, h3, h4, h5, _, h6⟩
  · cases h1
  · obtain ⟨rfl, rfl⟩ : g' = g ∧ cap' = cap := by
      simp only [Value.slice.injEq, Option.some.injEq, Addr.mk.injEq] at h1
      exact ⟨h1.1.1.symm, h1.2.2.symm⟩
    exact ⟨cur, h3, h4, by unfold maxLen at h5; omega, by simpa using h6⟩
/-- All frames from the front on: the payloads, and how many bytes they take. -/
def whole : Nat → ByteArray → List ByteArray × Nat
  | 0, _ => ([], 0)
  | f + 1, b => match cutV b with
    | none => ([], 0)
    | some p => (p :: (whole f (b.extract (12 + p.size) b.size)).1, 12 + p.size + (whole f (b.extract (12 + p.size) b.size)).2)
theorem whole_fuel : ∀ (f g : Nat) (b : ByteArray), b.size < f → b.size < g → whole f b = whole g b
  | 0, _, _, h, _ => by omega
  | _ + 1, 0, _, _, h => by omega
  | f + 1, g + 1, b, h1, h2 => by
    unfold whole
    cases hc : cutV b with
    | none => rfl
    | some p =>
      have := cut_size hc
      have e := whole_fuel f g (b.extract (12 + p.size) b.size) (by rw [ByteArray.size_extract]; omega) (by rw [ByteArray.size_extract]; omega)
      simp only [e]
def wholeV (b : ByteArray) : List ByteArray × Nat := whole (b.size + 1) b
theorem whole_none {b : ByteArray} (h : cutV b = none) : wholeV b = ([], 0) := by unfold wholeV whole; rw [h]
theorem whole_some {b p : ByteArray} (h : cutV b = some p) : wholeV b = (p :: (wholeV (b.extract (12 + p.size) b.size)).1, 12 + p.size + (wholeV (b.extract (12 + p.size) b.size)).2) := by
  have := cut_size h
  have e := whole_fuel b.size ((b.extract (12 + p.size) b.size).size + 1) (b.extract (12 + p.size) b.size) (by rw [ByteArray.size_extract]; omega) (by omega)
  unfold wholeV
  conv => lhs; unfold whole
  rw [h]
  simp only [e]
/-- The state of Whole: what has been read, and what is ahead. -/
structure WSt (s : ByteArray) (L : List ByteArray) (c : Nat) : Prop where
  le : c ≤ s.size
  len : L.length * 12 ≤ c
  eq : wholeV s = (L ++ (wholeV (s.extract c s.size)).1, c + (wholeV (s.extract c s.size)).2)
theorem WSt.zero (s : ByteArray) : WSt s [] 0 := ⟨Nat.zero_le _, by simp, by simp⟩
theorem WSt.next {s p : ByteArray} {L : List ByteArray} {c : Nat} (h : WSt s L c) (hp : cutV (s.extract c s.size) = some p) : WSt s (L ++ [p]) (c + (12 + p.size)) := by
  have hz := cut_size hp
  have hs : (s.extract c s.size).size = s.size - c := by rw [ByteArray.size_extract]; omega
  refine ⟨by omega, by rw [List.length_append]; have := h.len; simp; omega, ?_⟩
  have e : (s.extract c s.size).extract (12 + p.size) (s.extract c s.size).size = s.extract (c + (12 + p.size)) s.size := by
    have := extract_extract s c (12 + p.size) (s.size - c - (12 + p.size))
    rw [hs, show s.size - c = 12 + p.size + (s.size - c - (12 + p.size)) by omega, this]
    congr 1; omega
  rw [h.eq, whole_some hp, e]
  simp only [List.append_assoc, List.singleton_append, Nat.add_assoc]
theorem WSt.stop {s : ByteArray} {L : List ByteArray} {c : Nat} (h : WSt s L c) (hn : cutV (s.extract c s.size) = none) : wholeV s = (L, c) := by
  rw [h.eq, whole_none hn]; simp
/-- What stands at a place. -/
def getR (s : ByteArray) (a : Int) : Value :=
  if 0 ≤ a ∧ a ≤ s.size then match cutV (s.extract a.toNat s.size) with
    | none => .tuple #[.string ⟨#[]⟩, .int .i64 0, .bool false]
    | some p => .tuple #[.string p, .int .i64 ((a.toNat + (12 + p.size) : Nat) : Int), .bool true]
  else .tuple #[.string ⟨#[]⟩, .int .i64 0, .bool false]
theorem getR_out {s : ByteArray} {a : Int} (h : ¬ (0 ≤ a ∧ a ≤ s.size)) : getR s a = .tuple #[.string ⟨#[]⟩, .int .i64 0, .bool false] := by unfold getR; rw [if_neg h]
theorem getR_none {s : ByteArray} {k : Nat} (h : k ≤ s.size) (hc : cutV (s.extract k s.size) = none) : getR s (k : Int) = .tuple #[.string ⟨#[]⟩, .int .i64 0, .bool false] := by
  unfold getR; rw [if_pos (by omega), Int.toNat_natCast, hc]
theorem getR_some {s p : ByteArray} {k : Nat} (h : k ≤ s.size) (hc : cutV (s.extract k s.size) = some p) : getR s (k : Int) = .tuple #[.string p, .int .i64 ((k + (12 + p.size) : Nat) : Int), .bool true] := by
  unfold getR; rw [if_pos (by omega), Int.toNat_natCast, hc]
theorem ret_val {a b : Value} (h : a = b) : Ending.returned a = .returned b := by rw [h]
def strsL (L : List ByteArray) : List Value := L.map Value.string
theorem strsL_snoc (L : List ByteArray) (p : ByteArray) : strsL L ++ [.string p] = strsL (L ++ [p]) := by unfold strsL; simp

set_option maxRecDepth 100000 in
set_option maxHeartbeats 4000000 in
theorem fget_c (s : ByteArray) (hs : s.size ≤ 1000000) (a : Int) (ha : -9223372036854775808 ≤ a ∧ a ≤ 9223372036854775807) (w : World) (h0 : Tab w 0 H8) (h1 : Tab w 1 K64) : Calls Tryd.prog 33 #[.string s, .int .i64 a] w fun e w' => e = .returned (getR s a) ∧ Below w.heap.size w w' := by
  have HB : Below w.heap.size w w := Below.refl _ _
  have Cu : ∀ (b : ByteArray) (gb o cap : Nat) (cur : Array Value) (w' : World), Below w.heap.size w w' → Kw.At w' gb cur 5 → (cur.toList.drop o).take b.size = cellsS b → b.size ≤ cap → cap ≤ 9223372036854775807 →
      Calls Tryd.prog 38 #[.slice (some ⟨gb, o, none⟩) b.size cap] w' (Kw.Back fun v w2 => (∃ vp vr, v = .tuple #[vp, vr, .bool (cutV b).isSome] ∧ ∀ p, cutV b = some p → ∃ op oq, vp = .slice (some ⟨gb, op, none⟩) p.size p.size ∧
      vr = .slice (some ⟨gb, oq, none⟩) (b.size - (12 + p.size)) (cap - (12 + p.size)) ∧ (cur.toList.drop op).take p.size = cellsS p ∧ (cur.toList.drop oq).take (b.size - (12 + p.size)) = cellsS (b.extract (12 + p.size) b.size)) ∧ Below w'.heap.size w' w2) :=
    fun b gb o cap cur w' hB hA hb hc hcap => cut_c b gb o cap cur w' hA hb hc hcap (tab_below h0 hB) (tab_below h1 hB)
  clear h0 h1
  refine Kw.enter Tryd.func33 rfl Tryd.ntmps33 rfl rfl ?_
  refine Kw.WC_seq (fun K1 hK1 => ?_)
  refine Kw.WC_region [some 4, some 5, some 6] rfl ?_
  refine Kw.WL_v rfl rfl rfl (Kw.R_assign rfl) ?_
  refine Kw.WL_v rfl rfl rfl (Kw.R_assign rfl) ?_
  refine Kw.WL_v rfl rfl rfl (Kw.R_assign rfl) ?_
  refine Kw.WL_nil ?_
  refine hK1 _ _ ?_; clear hK1 K1
  refine Kw.WC_seq (fun K2 hK2 => ?_)
  refine Kw.WC_seq (fun K3 hK3 => ?_)
  refine Kw.WC_region [some 9, some 10, some 11, some 12, some 13, some 14, some 15, some 16] rfl ?_
  refine Kw.WL_v rfl rfl rfl (Kw.R_move rfl) ?_
  by_cases c4 : (a : Int) < 0
  ·
    refine Kw.WL_v rfl rfl rfl (Kw.R_lss (z := true) rfl rfl (decide_eq_true c4)) ?_
    refine Kw.WL_v rfl rfl rfl (Kw.R_move rfl) ?_
    refine Kw.WL_off rfl rfl rfl ?_
    refine Kw.WL_off rfl rfl rfl ?_
    refine Kw.WL_off rfl rfl rfl ?_
    refine Kw.WL_off rfl rfl rfl ?_
    refine Kw.WL_v rfl rfl rfl (Kw.R_pickt rfl rfl) ?_
    refine Kw.WL_nil ?_
    refine hK3 _ _ ?_; clear hK3 K3
    refine Kw.WC_sub (l' := [(0, .string s), (1, .int .i64 a), (16, .bool true)]) (Kw.Sub.cons rfl (Kw.Sub.cons rfl (Kw.Sub.cons rfl Kw.Sub.nil))) ?_
    refine Kw.WC_true rfl ?_
    refine Kw.WC_seq (fun K5 hK5 => ?_)
    refine Kw.WC_region [some 4, some 5, some 6] rfl ?_
    refine Kw.WL_v rfl rfl rfl (Kw.R_assign rfl) ?_
    refine Kw.WL_v rfl rfl rfl (Kw.R_assign rfl) ?_
    refine Kw.WL_v rfl rfl rfl (Kw.R_assign rfl) ?_
    refine Kw.WL_nil ?_
    refine hK5 _ _ ?_; clear hK5 K5
    refine Kw.WC_ret ?_
    refine Kw.QR_then ?_; clear hK2 K2
    refine Kw.post_ret3 rfl rfl rfl rfl ⟨ret_val (getR_out (by omega)).symm, HB⟩
  ·
    refine Kw.WL_v rfl rfl rfl (Kw.R_lss (z := false) rfl rfl (decide_eq_false c4)) ?_
    refine Kw.WL_v rfl rfl rfl (Kw.R_move rfl) ?_
    refine Kw.WL_v rfl rfl rfl (Kw.R_move rfl) ?_
    refine Kw.WL_v rfl rfl rfl (Kw.R_move rfl) ?_
    refine Kw.WL_v rfl rfl rfl (Kw.R_lens Tryd.underlying9 rfl) ?_
    by_cases c6 : ((s.size : Int) : Int) < a
    ·
      refine Kw.WL_v rfl rfl rfl (Kw.R_gtr (z := true) rfl rfl (decide_eq_true c6)) ?_
      refine Kw.WL_v rfl rfl rfl (Kw.R_pickf rfl rfl) ?_
      refine Kw.WL_nil ?_
      refine hK3 _ _ ?_; clear hK3 K3
      refine Kw.WC_sub (l' := [(0, .string s), (1, .int .i64 a), (16, .bool true)]) (Kw.Sub.cons rfl (Kw.Sub.cons rfl (Kw.Sub.cons rfl Kw.Sub.nil))) ?_
      refine Kw.WC_true rfl ?_
      refine Kw.WC_seq (fun K7 hK7 => ?_)
      refine Kw.WC_region [some 4, some 5, some 6] rfl ?_
      refine Kw.WL_v rfl rfl rfl (Kw.R_assign rfl) ?_
      refine Kw.WL_v rfl rfl rfl (Kw.R_assign rfl) ?_
      refine Kw.WL_v rfl rfl rfl (Kw.R_assign rfl) ?_
      refine Kw.WL_nil ?_
      refine hK7 _ _ ?_; clear hK7 K7
      refine Kw.WC_ret ?_
      refine Kw.QR_then ?_; clear hK2 K2
      refine Kw.post_ret3 rfl rfl rfl rfl ⟨ret_val (getR_out (by omega)).symm, HB⟩
    ·
      refine Kw.WL_v rfl rfl rfl (Kw.R_gtr (z := false) rfl rfl (decide_eq_false c6)) ?_
      refine Kw.WL_v rfl rfl rfl (Kw.R_pickf rfl rfl) ?_
      refine Kw.WL_nil ?_
      refine hK3 _ _ ?_; clear hK3 K3
      refine Kw.WC_sub (l' := [(0, .string s), (1, .int .i64 a), (16, .bool false)]) (Kw.Sub.cons rfl (Kw.Sub.cons rfl (Kw.Sub.cons rfl Kw.Sub.nil))) ?_
      refine Kw.WC_false rfl ?_
      refine Kw.WC_skip ?_
      refine hK2 _ _ ?_; clear hK2 K2
      refine Kw.WC_seq (fun K8 hK8 => ?_)
      refine Kw.WC_region [some 18, some 19, some 20, some 21, some 22, some 17, some 23, some 24, some 25, some 7, some 8, some 6] rfl ?_
      obtain ⟨k, rfl⟩ : ∃ k : Nat, a = (k : Int) := ⟨a.toNat, by omega⟩
      refine Kw.WL_v rfl rfl rfl (Kw.R_move rfl) ?_
      refine Kw.WL_v rfl rfl rfl (Kw.R_move rfl) ?_
      obtain ⟨q, hq⟩ : ∃ x : ByteArray, ByteArray.extract s k s.size = x := ⟨_, rfl⟩
      refine Kw.WL_v rfl rfl rfl (Kw.R_slices (i := k) (j := s.size) (r := q) Tryd.underlying9 rfl ⟨_, rfl⟩ rfl (by omega) (by omega) (hq)) ?_
      have hqs : q.size = s.size - k := by rw [← hq, ByteArray.size_extract]; omega
      refine Kw.WL_sbytes rfl rfl Tryd.underlying9 Tryd.underlying32 Tryd.underlying5 rfl (by unfold maxLen; omega) ?_; intro gb capb w9 hob hbb hgb Ob
      obtain ⟨cur, A_gb, hcb, hmb, htb⟩ := OwnAt Ob; replace htb : (cur.toList.drop 0).take q.size = cellsS q := htb; have G_gb : w.heap.size ≤ gb := Nat.le_trans HB.size hgb
      replace HB := Kw.Below.then HB (Nat.le_refl _) hbb; clear hbb hob hgb Ob
      refine Kw.WL_call rfl rfl rfl rfl F.cl38 rfl (Cu q gb 0 capb cur _ HB A_gb htb (by omega) hmb) ?_; rintro _ w10 ⟨⟨vp, vr, rfl, hcut⟩, bw10⟩
      replace A_gb := A_gb.call bw10; replace HB := Kw.Below.then HB (Nat.le_refl _) bw10; clear bw10
      rcases hqc : cutV q with _ | p
      ·
        refine Kw.WL_v rfl rfl rfl (Kw.R_move rfl) ?_
        refine Kw.WL_v rfl rfl rfl (Kw.R_extract (v := vp) rfl rfl) ?_
        refine Kw.WL_v rfl rfl rfl (Kw.R_extract (v := vr) rfl rfl) ?_
        refine Kw.WL_v rfl rfl rfl (Kw.R_extract (v := .bool false) rfl rfl) ?_
        refine Kw.WL_v rfl rfl rfl (Kw.R_assign rfl) ?_
        refine Kw.WL_v rfl rfl rfl (Kw.R_assign rfl) ?_
        refine Kw.WL_v rfl rfl rfl (Kw.R_assign rfl) ?_
        refine Kw.WL_nil ?_
        refine hK8 _ _ ?_; clear hK8 K8
        refine Kw.WC_sub (l' := [(0, .string s), (7, vp), (8, vr), (6, .bool false)]) (Kw.Sub.cons rfl (Kw.Sub.cons rfl (Kw.Sub.cons rfl (Kw.Sub.cons rfl Kw.Sub.nil)))) ?_
        refine Kw.WC_seq (fun K11 hK11 => ?_)
        refine Kw.WC_seq (fun K12 hK12 => ?_)
        refine Kw.WC_region [some 26, some 27] rfl ?_
        refine Kw.WL_v rfl rfl rfl (Kw.R_move rfl) ?_
        refine Kw.WL_v rfl rfl rfl (Kw.R_not rfl rfl) ?_
        refine Kw.WL_nil ?_
        refine hK12 _ _ ?_; clear hK12 K12
        refine Kw.WC_true rfl ?_
        refine Kw.WC_seq (fun K13 hK13 => ?_)
        refine Kw.WC_region [some 4, some 5, some 6] rfl ?_
        refine Kw.WL_v rfl rfl rfl (Kw.R_assign rfl) ?_
        refine Kw.WL_v rfl rfl rfl (Kw.R_assign rfl) ?_
        refine Kw.WL_v rfl rfl rfl (Kw.R_assign rfl) ?_
        refine Kw.WL_nil ?_
        refine hK13 _ _ ?_; clear hK13 K13
        refine Kw.WC_ret ?_
        refine Kw.QR_then ?_; clear hK11 K11
        refine Kw.post_ret3 rfl rfl rfl rfl ⟨ret_val (getR_none (by omega) (by rw [hq]; exact hqc)).symm, HB⟩
      ·
        obtain ⟨op, oq, rfl, rfl, hp1, hp2⟩ := hcut p hqc; have hz := cut_size hqc
        refine Kw.WL_v rfl rfl rfl (Kw.R_move rfl) ?_
        refine Kw.WL_v rfl rfl rfl (Kw.R_extract (v := .slice (some ⟨gb, op, none⟩) p.size p.size) rfl rfl) ?_
        refine Kw.WL_v rfl rfl rfl (Kw.R_extract (v := .slice (some ⟨gb, oq, none⟩) (q.size - (12 + p.size)) (capb - (12 + p.size))) rfl rfl) ?_
        refine Kw.WL_v rfl rfl rfl (Kw.R_extract (v := .bool true) rfl rfl) ?_
        refine Kw.WL_v rfl rfl rfl (Kw.R_assign rfl) ?_
        refine Kw.WL_v rfl rfl rfl (Kw.R_assign rfl) ?_
        refine Kw.WL_v rfl rfl rfl (Kw.R_assign rfl) ?_
        refine Kw.WL_nil ?_
        refine hK8 _ _ ?_; clear hK8 K8
        refine Kw.WC_sub (l' := [(0, .string s), (7, .slice (some ⟨gb, op, none⟩) p.size p.size), (8, .slice (some ⟨gb, oq, none⟩) (q.size - (12 + p.size)) (capb - (12 + p.size))), (6, .bool true)]) (Kw.Sub.cons rfl (Kw.Sub.cons rfl (Kw.Sub.cons rfl (Kw.Sub.cons rfl Kw.Sub.nil)))) ?_
        refine Kw.WC_seq (fun K14 hK14 => ?_)
        refine Kw.WC_seq (fun K15 hK15 => ?_)
        refine Kw.WC_region [some 26, some 27] rfl ?_
        refine Kw.WL_v rfl rfl rfl (Kw.R_move rfl) ?_
        refine Kw.WL_v rfl rfl rfl (Kw.R_not rfl rfl) ?_
        refine Kw.WL_nil ?_
        refine hK15 _ _ ?_; clear hK15 K15
        refine Kw.WC_false rfl ?_
        refine Kw.WC_skip ?_
        refine hK14 _ _ ?_; clear hK14 K14
        refine Kw.WC_seq (fun K16 hK16 => ?_)
        refine Kw.WC_region [some 28, some 29, some 30, some 31, some 32, some 33, some 34, some 4, some 5, some 6] rfl ?_
        refine Kw.WL_v rfl rfl rfl (Kw.R_move rfl) ?_
        refine Kw.WL_v rfl rfl rfl (Kw.R_convbs (bs := p.data.toList) (r := p) Tryd.underlying32 Tryd.underlying5 Tryd.underlying9 rfl A_gb (tl_len p) (conv_hc hp1 rfl) (rfl)) ?_
        refine Kw.WL_v rfl rfl rfl (Kw.R_move rfl) ?_
        refine Kw.WL_v rfl rfl rfl (Kw.R_lens Tryd.underlying9 rfl) ?_
        refine Kw.WL_v rfl rfl rfl (Kw.R_move rfl) ?_
        refine Kw.WL_v rfl rfl rfl (Kw.R_lenl Tryd.underlying32 rfl) ?_
        refine Kw.WL_v rfl rfl rfl (Kw.R_sub (c := ((k + (12 + p.size) : Nat) : Int)) rfl rfl (by rw [Kw.wrap_i64 (by omega)]; omega)) ?_
        refine Kw.WL_v rfl rfl rfl (Kw.R_assign rfl) ?_
        refine Kw.WL_v rfl rfl rfl (Kw.R_assign rfl) ?_
        refine Kw.WL_v rfl rfl rfl (Kw.R_assign rfl) ?_
        refine Kw.WL_nil ?_
        refine hK16 _ _ ?_; clear hK16 K16
        refine Kw.WC_sub (l' := [(6, .bool true), (4, .string p), (5, .int .i64 ((k + (12 + p.size) : Nat) : Int))]) (Kw.Sub.cons rfl (Kw.Sub.cons rfl (Kw.Sub.cons rfl Kw.Sub.nil))) ?_
        refine Kw.WC_ret ?_
        refine Kw.post_ret3 rfl rfl rfl rfl ⟨ret_val (getR_some (by omega) (by rw [hq]; exact hqc)).symm, HB⟩

set_option maxRecDepth 100000 in
set_option maxHeartbeats 4000000 in
theorem fwhole_c (s : ByteArray) (hs : s.size ≤ 1000000) (w : World) (h0 : Tab w 0 H8) (h1 : Tab w 1 K64) : Calls Tryd.prog 22 #[.string s] w (Kw.Back fun v w' => (∃ vl, v = .tuple #[vl, .int .i64 ((wholeV s).2 : Int)] ∧ Kw.Own w' w.heap.size 9 1 vl (wholeV s).1.length (strsL (wholeV s).1)) ∧ Below w.heap.size w w') := by
  have HB : Below w.heap.size w w := Below.refl _ _
  have Cu : ∀ (b : ByteArray) (gb o cap : Nat) (cur : Array Value) (w' : World), Below w.heap.size w w' → Kw.At w' gb cur 5 → (cur.toList.drop o).take b.size = cellsS b → b.size ≤ cap → cap ≤ 9223372036854775807 →
      Calls Tryd.prog 38 #[.slice (some ⟨gb, o, none⟩) b.size cap] w' (Kw.Back fun v w2 => (∃ vp vr, v = .tuple #[vp, vr, .bool (cutV b).isSome] ∧ ∀ p, cutV b = some p → ∃ op oq, vp = .slice (some ⟨gb, op, none⟩) p.size p.size ∧
      vr = .slice (some ⟨gb, oq, none⟩) (b.size - (12 + p.size)) (cap - (12 + p.size)) ∧ (cur.toList.drop op).take p.size = cellsS p ∧ (cur.toList.drop oq).take (b.size - (12 + p.size)) = cellsS (b.extract (12 + p.size) b.size)) ∧ Below w'.heap.size w' w2) :=
    fun b gb o cap cur w' hB hA hb hc hcap => cut_c b gb o cap cur w' hA hb hc hcap (tab_below h0 hB) (tab_below h1 hB)
  clear h0 h1
  refine Kw.enter Tryd.func22 rfl Tryd.ntmps22 rfl rfl ?_
  refine Kw.WC_seq (fun K1 hK1 => ?_)
  refine Kw.WC_region [some 2, some 3] rfl ?_
  refine Kw.WL_v rfl rfl rfl (Kw.R_assign rfl) ?_
  refine Kw.WL_v rfl rfl rfl (Kw.R_assign rfl) ?_
  refine Kw.WL_nil ?_
  refine hK1 _ _ ?_; clear hK1 K1
  refine Kw.WC_seq (fun K2 hK2 => ?_)
  refine Kw.WC_region [some 8, some 9, some 4] rfl ?_
  refine Kw.WL_v rfl rfl rfl (Kw.R_move rfl) ?_
  refine Kw.WL_sbytes rfl rfl Tryd.underlying9 Tryd.underlying32 Tryd.underlying5 rfl (by unfold maxLen; omega) ?_; intro gb capb w3 hob hbb hgb Ob
  obtain ⟨cur, A_gb, hcb, hmb, htb⟩ := OwnAt Ob; replace htb : (cur.toList.drop 0).take s.size = cellsS s := htb; have G_gb : w.heap.size ≤ gb := Nat.le_trans HB.size hgb
  replace HB := Kw.Below.then HB (Nat.le_refl _) hbb; clear hbb hob hgb Ob
  refine Kw.WL_v rfl rfl rfl (Kw.R_assign rfl) ?_
  refine Kw.WL_nil ?_
  refine hK2 _ _ ?_; clear hK2 K2
  refine Kw.WC_block ?_
  have e0 : s.extract 0 s.size = s := by simp
  refine Kw.WC_loop (ι := Value × Nat × Nat × Nat × List ByteArray) (fun (q : Value × Nat × Nat × Nat × List ByteArray) (ww : World) => match q with | ⟨v, c, o, cap, L⟩ => (WSt s L c ∧ (s.extract c s.size).size ≤ cap ∧ cap ≤ 9223372036854775807 ∧ (cur.toList.drop o).take (s.extract c s.size).size = cellsS (s.extract c s.size)) ∧ Kw.At ww gb cur 5 ∧ Kw.Own ww w.heap.size 9 1 v L.length (strsL L) ∧ Kw.ob v ≠ some gb ∧ Below w.heap.size w ww) (fun (q : Value × Nat × Nat × Nat × List ByteArray) => match q with | ⟨v, c, o, cap, L⟩ => [(0, .string s), (2, v), (4, .slice (some ⟨gb, o, none⟩) (s.size - c) cap)]) (fun (q : Value × Nat × Nat × Nat × List ByteArray) => match q with | ⟨v, c, o, cap, L⟩ => s.size - c) (.slice none 0 0, 0, 0, capb, []) ⟨⟨WSt.zero s, by rw [e0]; exact hcb, hmb, by rw [e0]; exact htb⟩, A_gb, (Kw.Own.nil _ _ _ _), (fun h => by cases h), HB⟩ (Kw.Sub.cons rfl (Kw.Sub.cons rfl (Kw.Sub.cons rfl Kw.Sub.nil))) ?_
  clear A_gb
  clear HB
  rintro ⟨v, c, o, cap, L⟩ w4 ⟨⟨hW, hle, hcap, hrd⟩, A_gb, O_v, D_v_gb, HB⟩
  dsimp only at *
  obtain ⟨q, hq⟩ : ∃ q, q = s.extract c s.size := ⟨_, rfl⟩
  rw [← hq] at hle hrd
  have hqs : q.size = s.size - c := by rw [hq, ByteArray.size_extract]; omega
  rw [← hqs]
  refine Kw.WC_block ?_
  refine Kw.WC_seq (fun K5 hK5 => ?_)
  refine Kw.WC_region [some 11, some 12, some 10, some 13, some 14, some 15, some 5, some 6, some 7] rfl ?_
  refine Kw.WL_v rfl rfl rfl (Kw.R_move rfl) ?_
  have hWle := hW.le; have hWlen := hW.len
  refine Kw.WL_call rfl rfl rfl rfl F.cl38 rfl (Cu q gb o cap cur _ HB A_gb hrd hle hcap) ?_; rintro _ w6 ⟨⟨vp, vr, rfl, hcut⟩, bw6⟩
  replace A_gb := A_gb.call bw6; replace O_v := O_v.call bw6; replace HB := Kw.Below.then HB (Nat.le_refl _) bw6; clear bw6
  rcases hcp : cutV q with _ | p
  ·
    refine Kw.WL_v rfl rfl rfl (Kw.R_move rfl) ?_
    refine Kw.WL_v rfl rfl rfl (Kw.R_extract (v := vp) rfl rfl) ?_
    refine Kw.WL_v rfl rfl rfl (Kw.R_extract (v := vr) rfl rfl) ?_
    refine Kw.WL_v rfl rfl rfl (Kw.R_extract (v := .bool false) rfl rfl) ?_
    refine Kw.WL_v rfl rfl rfl (Kw.R_assign rfl) ?_
    refine Kw.WL_v rfl rfl rfl (Kw.R_assign rfl) ?_
    refine Kw.WL_v rfl rfl rfl (Kw.R_assign rfl) ?_
    refine Kw.WL_nil ?_
    refine hK5 _ _ ?_; clear hK5 K5
    refine Kw.WC_sub (l' := [(0, .string s), (2, v), (4, .slice (some ⟨gb, o, none⟩) q.size cap), (5, vp), (6, vr), (7, .bool false)]) (Kw.Sub.cons rfl (Kw.Sub.cons rfl (Kw.Sub.cons rfl (Kw.Sub.cons rfl (Kw.Sub.cons rfl (Kw.Sub.cons rfl Kw.Sub.nil)))))) ?_
    refine Kw.WC_seq (fun K7 hK7 => ?_)
    refine Kw.WC_seq (fun K8 hK8 => ?_)
    refine Kw.WC_region [some 16, some 17] rfl ?_
    refine Kw.WL_v rfl rfl rfl (Kw.R_move rfl) ?_
    refine Kw.WL_v rfl rfl rfl (Kw.R_not rfl rfl) ?_
    refine Kw.WL_nil ?_
    refine hK8 _ _ ?_; clear hK8 K8
    refine Kw.WC_true rfl ?_
    refine Kw.WC_seq (fun K9 hK9 => ?_)
    refine Kw.WC_region [some 18, some 19, some 20, some 21, some 22, some 23, some 2, some 3] rfl ?_
    refine Kw.WL_v rfl rfl rfl (Kw.R_move rfl) ?_
    refine Kw.WL_v rfl rfl rfl (Kw.R_move rfl) ?_
    refine Kw.WL_v rfl rfl rfl (Kw.R_lens Tryd.underlying9 rfl) ?_
    refine Kw.WL_v rfl rfl rfl (Kw.R_move rfl) ?_
    refine Kw.WL_v rfl rfl rfl (Kw.R_lenl Tryd.underlying32 rfl) ?_
    refine Kw.WL_v rfl rfl rfl (Kw.R_sub (c := (c : Int)) rfl rfl (by rw [Kw.wrap_i64 (by omega)]; omega)) ?_
    refine Kw.WL_v rfl rfl rfl (Kw.R_assign rfl) ?_
    refine Kw.WL_v rfl rfl rfl (Kw.R_assign rfl) ?_
    refine Kw.WL_nil ?_
    refine hK9 _ _ ?_; clear hK9 K9
    refine Kw.WC_sub (l' := [(2, v), (3, .int .i64 (c : Int))]) (Kw.Sub.cons rfl (Kw.Sub.cons rfl Kw.Sub.nil)) ?_
    refine Kw.WC_ret ?_
    refine Kw.QR_then ?_; clear hK7 K7
    refine Kw.QR_block ?_
    refine Kw.QR_then ?_
    refine Kw.QR_block ?_
    rw [hq] at hcp
    have hE := hW.stop hcp
    exact Kw.post_ret2 rfl rfl rfl ⟨_, rfl, ⟨_, by rw [hE], by rw [hE]; exact O_v⟩, HB⟩
  ·
    obtain ⟨op, oq, rfl, rfl, hp1, hp2⟩ := hcut p hcp; have hz := cut_size hcp
    have hrest : (cur.toList.drop oq).take (s.extract (c + (12 + p.size)) s.size).size = cellsS (s.extract (c + (12 + p.size)) s.size) := by
      have e : q.extract (12 + p.size) q.size = s.extract (c + (12 + p.size)) s.size := by
        have := extract_extract s c (12 + p.size) (s.size - c - (12 + p.size))
        rw [hqs, hq, show s.size - c = 12 + p.size + (s.size - c - (12 + p.size)) by omega, this]; congr 1; omega
      rw [← e, ByteArray.size_extract, show min q.size q.size - (12 + p.size) = q.size - (12 + p.size) by omega]; exact hp2
    rw [hq] at hcp
    refine Kw.WL_v rfl rfl rfl (Kw.R_move rfl) ?_
    refine Kw.WL_v rfl rfl rfl (Kw.R_extract (v := .slice (some ⟨gb, op, none⟩) p.size p.size) rfl rfl) ?_
    refine Kw.WL_v rfl rfl rfl (Kw.R_extract (v := .slice (some ⟨gb, oq, none⟩) (q.size - (12 + p.size)) (cap - (12 + p.size))) rfl rfl) ?_
    refine Kw.WL_v rfl rfl rfl (Kw.R_extract (v := .bool true) rfl rfl) ?_
    refine Kw.WL_v rfl rfl rfl (Kw.R_assign rfl) ?_
    refine Kw.WL_v rfl rfl rfl (Kw.R_assign rfl) ?_
    refine Kw.WL_v rfl rfl rfl (Kw.R_assign rfl) ?_
    refine Kw.WL_nil ?_
    refine hK5 _ _ ?_; clear hK5 K5
    refine Kw.WC_sub (l' := [(0, .string s), (2, v), (4, .slice (some ⟨gb, o, none⟩) q.size cap), (5, .slice (some ⟨gb, op, none⟩) p.size p.size), (6, .slice (some ⟨gb, oq, none⟩) (q.size - (12 + p.size)) (cap - (12 + p.size))), (7, .bool true)]) (Kw.Sub.cons rfl (Kw.Sub.cons rfl (Kw.Sub.cons rfl (Kw.Sub.cons rfl (Kw.Sub.cons rfl (Kw.Sub.cons rfl Kw.Sub.nil)))))) ?_
    refine Kw.WC_seq (fun K10 hK10 => ?_)
    refine Kw.WC_seq (fun K11 hK11 => ?_)
    refine Kw.WC_region [some 16, some 17] rfl ?_
    refine Kw.WL_v rfl rfl rfl (Kw.R_move rfl) ?_
    refine Kw.WL_v rfl rfl rfl (Kw.R_not rfl rfl) ?_
    refine Kw.WL_nil ?_
    refine hK11 _ _ ?_; clear hK11 K11
    refine Kw.WC_false rfl ?_
    refine Kw.WC_skip ?_
    refine hK10 _ _ ?_; clear hK10 K10
    refine Kw.WC_seq (fun K12 hK12 => ?_)
    refine Kw.WC_region [some 24, some 25, some 26, some 27, some 28, some 2] rfl ?_
    refine Kw.WL_v rfl rfl rfl (Kw.R_move rfl) ?_
    refine Kw.WL_v rfl rfl rfl (Kw.R_move rfl) ?_
    refine Kw.WL_v rfl rfl rfl (Kw.R_convbs (bs := p.data.toList) (r := p) Tryd.underlying32 Tryd.underlying5 Tryd.underlying9 rfl A_gb (tl_len p) (conv_hc hp1 rfl) (rfl)) ?_
    obtain ⟨g13, w14, N_g13⟩ : ∃ b w2, Kw.Newb w6 b #[.string p] 9 w2 := ⟨_, _, rfl, rfl⟩
    refine Kw.WL_v rfl rfl rfl (Kw.R_buildSlice rfl (fun w => by kernel_rfl) N_g13) ?_
    have L_gb_g13 := N_g13.ne A_gb; replace A_gb := N_g13.keep A_gb
    have A_g13 : Kw.At w14 g13 #[.string p] 9 := N_g13.at_
    have D_v_g13 := O_v.ne_new N_g13; replace O_v := O_v.new N_g13
    have G_g13 := N_g13.ge HB (Nat.le_refl _); replace HB := N_g13.below HB (Nat.le_refl _); clear N_g13
    refine Kw.WL_append rfl rfl rfl rfl Tryd.underlying38 Tryd.underlying38 (.inr ⟨_, rfl⟩) F.sz9 F.by9 F.ze9 rfl O_v (Kw.News.row (news := [.string p]) A_g13 rfl rfl (by simp [Value.oneCell'])) (by unfold maxLen; omega) (by omega) (Nat.le_trans (Nat.le_refl _) HB.size) ?_; intro v28 w15 O_v28 R_v28
    have D_v28_gb := R_v28.ne A_gb D_v_gb; replace A_gb := R_v28.keep A_gb D_v_gb
    have D_v28_g13 := R_v28.ne A_g13 D_v_g13; replace A_g13 := R_v28.keep A_g13 D_v_g13
    replace HB := R_v28.below HB (Nat.le_refl _) (fun g hg => O_v.ge hg); clear R_v28
    replace O_v28 : Kw.Own w15 w.heap.size 9 1 v28 ((L ++ [p]).length) (strsL (L ++ [p])) := by rw [← strsL_snoc, List.length_append]; exact O_v28
    clear O_v
    clear A_g13
    refine Kw.WL_v rfl rfl rfl (Kw.R_assign rfl) ?_
    refine Kw.WL_nil ?_
    refine hK12 _ _ ?_; clear hK12 K12
    refine Kw.WC_sub (l' := [(0, .string s), (2, v28), (6, .slice (some ⟨gb, oq, none⟩) (q.size - (12 + p.size)) (cap - (12 + p.size)))]) (Kw.Sub.cons rfl (Kw.Sub.cons rfl (Kw.Sub.cons rfl Kw.Sub.nil))) ?_
    refine Kw.WC_region [some 29, some 4] rfl ?_
    refine Kw.WL_v rfl rfl rfl (Kw.R_move rfl) ?_
    refine Kw.WL_v rfl rfl rfl (Kw.R_assign rfl) ?_
    refine Kw.WL_nil ?_
    refine Kw.QN_block ?_
    refine Kw.QN_round ((v28, c + (12 + p.size), oq, cap - (12 + p.size), L ++ [p])) ⟨⟨hW.next hcp, by show _ ≤ cap - (12 + p.size); rw [show (s.extract (c + (12 + p.size)) s.size).size = s.size - (c + (12 + p.size)) by rw [ByteArray.size_extract]; omega]; omega, by show cap - (12 + p.size) ≤ _; omega, hrest⟩, A_gb, O_v28, D_v28_gb, HB⟩ (by dsimp only; omega) (by rw [show s.size - (c + (12 + p.size)) = q.size - (12 + p.size) by omega]; exact (Kw.Sub.cons rfl (Kw.Sub.cons rfl (Kw.Sub.cons rfl Kw.Sub.nil))))
end Go.Proofs.YtngkedoaijlnlaaDoor.Fn
