/- Whether keys are the same. -/
import Derived.Test.YtidoilcgdfhfiaaTm7
namespace Go.Proofs.Ytidoilcgdfhfiaa.Fn
open Go Go.Proofs Go.RowKit
set_option linter.unusedVariables false
set_option linter.unusedSimpArgs false
/-- Keys, as they are read. -/
def RdK (w : World) (v : Value) (ks : List (Int × Int)) : Prop :=
  ∃ a cap, v = .slice a ks.length cap ∧ (ks = [] ∨ ∃ g cur U, a = some ⟨g, 0, none⟩ ∧ Kw.At w g cur U ∧ cur.toList.take (ks.length * 2) = flatP ks)
theorem RdK.own {w : World} {B e : Nat} {v : Value} {ks : List (Int × Int)} (h : Kw.Own w B e 2 v ks.length (flatP ks)) : RdK w v ks := by
  rcases h.2 with ⟨rfl, hn⟩ | ⟨g, cap, cur, rfl, _, ha, _, _, _, ht⟩
  · exact ⟨none, 0, by rw [hn], .inl (List.eq_nil_of_length_eq_zero hn)⟩
  · exact ⟨_, cap, rfl, .inr ⟨g, cur, e, rfl, ha, ht⟩⟩
theorem rdK_at {cur : Array Value} {ks : List (Int × Int)} {i : Nat} (hc : cur.toList.take (ks.length * 2) = flatP ks) (h : i < ks.length) : i * 2 + 2 ≤ cur.size ∧ cur.extract (i * 2) (i * 2 + 2) = #[.int .i64 (ks[i]'h).1, .int .i64 (ks[i]'h).2] := by
  have hl := congrArg List.length hc
  have h3 : cur.toList.length = cur.size := by simp
  rw [List.length_take, flatP_length] at hl
  exact ⟨by omega, two_cells hc rfl i h (by omega)⟩

set_option maxRecDepth 100000 in
set_option maxHeartbeats 4000000 in
theorem same_c (v1 v2 : Value) (L1 L2 : List (Int × Int)) (ok1 : ∀ k ∈ L1, okK k) (ok2 : ∀ k ∈ L2, okK k) (hm : L1.length ≤ 1000000) (w : World) (S1 : RdK w v1 L1) (S2 : RdK w v2 L2) : Calls Try.prog 14 #[v1, v2] w fun e w' => e = .returned (.bool (decide (L1 = L2))) ∧ Below w.heap.size w w' := by
  have HB : Below w.heap.size w w := Below.refl _ _
  obtain ⟨a1, cap1, rfl, R1⟩ := S1
  obtain ⟨a2, cap2, rfl, R2⟩ := S2
  refine Kw.enter Try.func14 rfl Try.ntmps14 rfl rfl ?_
  refine Kw.WC_seq (fun K1 hK1 => ?_)
  refine Kw.WC_region [some 4] rfl ?_
  refine Kw.WL_v rfl rfl rfl (Kw.R_assign rfl) ?_
  refine Kw.WL_nil ?_
  refine hK1 _ _ ?_; clear hK1 K1
  refine Kw.WC_seq (fun K2 hK2 => ?_)
  refine Kw.WC_seq (fun K3 hK3 => ?_)
  refine Kw.WC_region [some 6, some 7, some 8, some 9, some 10] rfl ?_
  refine Kw.WL_v rfl rfl rfl (Kw.R_move rfl) ?_
  refine Kw.WL_v rfl rfl rfl (Kw.R_lenl (n := L1.length) Try.underlying32 rfl) ?_
  refine Kw.WL_v rfl rfl rfl (Kw.R_move rfl) ?_
  refine Kw.WL_v rfl rfl rfl (Kw.R_lenl (n := L2.length) Try.underlying43 rfl) ?_
  by_cases c4 : (L1.length : Int) = (L2.length : Int)
  ·
    refine Kw.WL_v rfl rfl rfl (Kw.R_nei (z := false) rfl rfl (decide_eq_true c4)) ?_
    have hlen : L1.length = L2.length := by omega
    refine Kw.WL_nil ?_
    refine hK3 _ _ ?_; clear hK3 K3
    refine Kw.WC_false rfl ?_
    refine Kw.WC_skip ?_
    refine hK2 _ _ ?_; clear hK2 K2
    refine Kw.WC_sub (l' := [(0, .slice a1 L1.length cap1), (1, .slice a2 L2.length cap2)]) (Kw.Sub.cons rfl (Kw.Sub.cons rfl Kw.Sub.nil)) ?_
    refine Kw.WC_seq (fun K5 hK5 => ?_)
    refine Kw.WC_seq (fun K6 hK6 => ?_)
    refine Kw.WC_region [some 5] rfl ?_
    refine Kw.WL_v rfl rfl rfl (Kw.R_assign rfl) ?_
    refine Kw.WL_nil ?_
    refine hK6 _ _ ?_; clear hK6 K6
    refine Kw.WC_block ?_
    refine Kw.WC_loop (ι := Nat) (fun (i : Nat) (ww : World) => (i ≤ L1.length ∧ L1.take i = L2.take i) ∧ Below w.heap.size w ww) (fun (i : Nat) => [(0, .slice a1 L1.length cap1), (1, .slice a2 L2.length cap2), (5, .int .i64 (i : Int))]) (fun (i : Nat) => L1.length - i) 0 ⟨⟨Nat.zero_le _, rfl⟩, HB⟩ (Kw.Sub.cons rfl (Kw.Sub.cons rfl (Kw.Sub.cons rfl Kw.Sub.nil))) ?_
    clear HB
    rintro i w7 ⟨⟨hi, he⟩, HB⟩
    refine Kw.WC_seq (fun K8 hK8 => ?_)
    refine Kw.WC_seq (fun K9 hK9 => ?_)
    refine Kw.WC_region [some 11, some 12, some 13, some 14] rfl ?_
    refine Kw.WL_v rfl rfl rfl (Kw.R_move rfl) ?_
    refine Kw.WL_v rfl rfl rfl (Kw.R_move rfl) ?_
    refine Kw.WL_v rfl rfl rfl (Kw.R_lenl (n := L1.length) Try.underlying32 rfl) ?_
    by_cases c10 : ((i : Int) : Int) < (L1.length : Int)
    ·
      refine Kw.WL_v rfl rfl rfl (Kw.R_lss (z := true) rfl rfl (decide_eq_true c10)) ?_
      refine Kw.WL_nil ?_
      refine hK9 _ _ ?_; clear hK9 K9
      refine Kw.WC_true rfl ?_
      refine Kw.WC_skip ?_
      refine hK8 _ _ ?_; clear hK8 K8
      refine Kw.WC_seq (fun K11 hK11 => ?_)
      refine Kw.WC_block ?_
      refine Kw.WC_seq (fun K12 hK12 => ?_)
      refine Kw.WC_still 8 [some 17, some 18, some 19, some 20, some 21, some 22, some 23, some 24, some 25] rfl (by kernel_rfl) (by kernel_rfl) ?_
      simp only [List.take_succ_cons, List.take_zero, List.drop_succ_cons, List.drop_zero]
      obtain ⟨w13, hww13⟩ : ∃ x : World, x = Go.World.drew w7 := ⟨_, rfl⟩
      rw [← hww13]
      replace HB : Below w.heap.size w w13 := by rw [hww13]; exact HB.drew
      clear hww13
      refine Kw.WS_v rfl rfl rfl (Kw.R_move rfl) ?_
      refine Kw.WS_v rfl rfl rfl (Kw.R_move rfl) ?_
      have hi1 : i < L1.length := by omega
      have hi2 : i < L2.length := by omega
      obtain ⟨p, hp⟩ : ∃ p, p = L1[i]'hi1 := ⟨_, rfl⟩
      obtain ⟨q, hq⟩ : ∃ q, q = L2[i]'hi2 := ⟨_, rfl⟩
      have hpk : okK p := ok1 p (by rw [hp]; exact List.getElem_mem hi1)
      have hqk : okK q := ok2 q (by rw [hq]; exact List.getElem_mem hi2)
      rcases R1 with rfl | ⟨g1, cur1, U1, rfl, A_1, hc1⟩
      · exact absurd hi1 (Nat.not_lt_zero _)
      rcases R2 with rfl | ⟨g2, cur2, U2, rfl, A_2, hc2⟩
      · exact absurd hi2 (Nat.not_lt_zero _)
      have A_g1 := A_1.call HB; have A_g2 := A_2.call HB
      obtain ⟨z1, y1⟩ := rdK_at hc1 hi1; obtain ⟨z2, y2⟩ := rdK_at hc2 hi2
      rw [← hp] at y1; rw [← hq] at y2
      refine Kw.WS_v rfl rfl rfl (Kw.R_indexAddrS (i := i) (b := g1) (o := 0) (o' := i * 2) rfl rfl Try.underlying32 F.sz29 (by omega) (by omega)) ?_
      refine Kw.WS_v rfl rfl rfl (Kw.R_loadN (ds := #[.int .i64 p.1, .int .i64 p.2]) rfl Try.underlying29 rfl F.sz29 A_g1 (by omega) y1) ?_
      refine Kw.WS_v rfl rfl rfl (Kw.R_move rfl) ?_
      refine Kw.WS_v rfl rfl rfl (Kw.R_move rfl) ?_
      refine Kw.WS_v rfl rfl rfl (Kw.R_indexAddrS (i := i) (b := g2) (o := 0) (o' := i * 2) rfl rfl Try.underlying43 F.sz28 (by omega) (by omega)) ?_
      refine Kw.WS_v rfl rfl rfl (Kw.R_loadN (ds := #[.int .i64 q.1, .int .i64 q.2]) rfl Try.underlying28 rfl F.sz28 A_g2 (by omega) y2) ?_
      refine Kw.WS_nil ?_
      by_cases hpq : p = q
      ·
        refine Kw.WL_v rfl rfl rfl (Kw.R_neK (a := p) (b := q) (z := false) E29 rfl rfl hpk hqk ⟨_, rfl⟩ (decide_eq_true hpq)) ?_
        refine Kw.WL_nil ?_
        refine hK12 _ _ ?_; clear hK12 K12
        refine Kw.WC_sub (l' := [(0, .slice (some ⟨g1, 0, none⟩) L1.length cap1), (1, .slice (some ⟨g2, 0, none⟩) L2.length cap2), (5, .int .i64 (i : Int)), (25, .bool false)]) (Kw.Sub.cons rfl (Kw.Sub.cons rfl (Kw.Sub.cons rfl (Kw.Sub.cons rfl Kw.Sub.nil)))) ?_
        refine Kw.WC_false rfl ?_
        refine Kw.WC_skip ?_
        refine Kw.QN_block ?_
        refine hK11 _ _ ?_; clear hK11 K11
        refine Kw.WC_region [some 15, some 16, some 5] rfl ?_
        refine Kw.WL_v rfl rfl rfl (Kw.R_move rfl) ?_
        refine Kw.WL_v rfl rfl rfl (Kw.R_add (c := ((i + 1 : Nat) : Int)) rfl rfl (by rw [Kw.wrap_i64 (by omega)]; omega)) ?_
        refine Kw.WL_v rfl rfl rfl (Kw.R_assign rfl) ?_
        refine Kw.WL_nil ?_
        refine Kw.QN_round (i + 1) ⟨⟨by omega, by rw [List.take_succ_eq_append_getElem hi1, List.take_succ_eq_append_getElem hi2, he, ← hp, ← hq, hpq]⟩, HB⟩ (by omega) (Kw.Sub.cons rfl (Kw.Sub.cons rfl (Kw.Sub.cons rfl Kw.Sub.nil)))
      ·
        refine Kw.WL_v rfl rfl rfl (Kw.R_neK (a := p) (b := q) (z := true) E29 rfl rfl hpk hqk ⟨_, rfl⟩ (decide_eq_false hpq)) ?_
        refine Kw.WL_nil ?_
        refine hK12 _ _ ?_; clear hK12 K12
        refine Kw.WC_sub (l' := [(0, .slice (some ⟨g1, 0, none⟩) L1.length cap1), (1, .slice (some ⟨g2, 0, none⟩) L2.length cap2), (5, .int .i64 (i : Int)), (25, .bool true)]) (Kw.Sub.cons rfl (Kw.Sub.cons rfl (Kw.Sub.cons rfl (Kw.Sub.cons rfl Kw.Sub.nil)))) ?_
        refine Kw.WC_true rfl ?_
        refine Kw.WC_seq (fun K14 hK14 => ?_)
        refine Kw.WC_region [some 4] rfl ?_
        refine Kw.WL_v rfl rfl rfl (Kw.R_assign rfl) ?_
        refine Kw.WL_nil ?_
        refine hK14 _ _ ?_; clear hK14 K14
        refine Kw.WC_ret ?_
        refine Kw.QR_block ?_
        refine Kw.QR_then ?_; clear hK11 K11
        refine Kw.QR_then ?_
        refine Kw.QR_block ?_
        refine Kw.QR_then ?_; clear hK5 K5
        have hE : ¬ L1 = L2 := by
          rintro rfl
          first
          | exact hpq (hp.trans hq.symm)
          | omega
        rw [decide_eq_false hE]
        exact Kw.post_ret1 rfl rfl ⟨rfl, HB⟩
    ·
      refine Kw.WL_v rfl rfl rfl (Kw.R_lss (z := false) rfl rfl (decide_eq_false c10)) ?_
      refine Kw.WL_nil ?_
      refine hK9 _ _ ?_; clear hK9 K9
      refine Kw.WC_false rfl ?_
      refine Kw.WC_exit ?_
      refine Kw.QE_then ?_; clear hK8 K8
      refine Kw.QE_then ?_
      refine Kw.QE_here ?_
      refine hK5 _ _ ?_; clear hK5 K5
      refine Kw.WC_sub (l' := []) Kw.Sub.nil ?_
      refine Kw.WC_seq (fun K15 hK15 => ?_)
      refine Kw.WC_region [some 4] rfl ?_
      refine Kw.WL_v rfl rfl rfl (Kw.R_assign rfl) ?_
      refine Kw.WL_nil ?_
      refine hK15 _ _ ?_; clear hK15 K15
      refine Kw.WC_ret ?_
      have hE : L1 = L2 := by
        rw [List.take_of_length_le (by omega), List.take_of_length_le (by omega)] at he; exact he
      rw [decide_eq_true hE]
      exact Kw.post_ret1 rfl rfl ⟨rfl, HB⟩
  ·
    refine Kw.WL_v rfl rfl rfl (Kw.R_nei (z := true) rfl rfl (decide_eq_false c4)) ?_
    refine Kw.WL_nil ?_
    refine hK3 _ _ ?_; clear hK3 K3
    refine Kw.WC_true rfl ?_
    refine Kw.WC_seq (fun K16 hK16 => ?_)
    refine Kw.WC_region [some 4] rfl ?_
    refine Kw.WL_v rfl rfl rfl (Kw.R_assign rfl) ?_
    refine Kw.WL_nil ?_
    refine hK16 _ _ ?_; clear hK16 K16
    refine Kw.WC_sub (l' := [(4, .bool false)]) (Kw.Sub.cons rfl Kw.Sub.nil) ?_
    refine Kw.WC_ret ?_
    refine Kw.QR_then ?_; clear hK2 K2
    have hE : ¬ L1 = L2 := by
      rintro rfl
      first
      | exact hpq (hp.trans hq.symm)
      | omega
    rw [decide_eq_false hE]
    exact Kw.post_ret1 rfl rfl ⟨rfl, HB⟩
end Go.Proofs.Ytidoilcgdfhfiaa.Fn
