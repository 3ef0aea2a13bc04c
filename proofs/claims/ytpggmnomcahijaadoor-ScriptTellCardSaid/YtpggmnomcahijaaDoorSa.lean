/- What is read of a text is put as it was. -/
import Derived.Test.YtpggmnomcahijaaDoorSw
namespace Go.Proofs.YtpggmnomcahijaaDoor.Fn
open Go Go.Proofs Go.RowKit
set_option linter.unusedVariables false
set_option linter.unusedSimpArgs false
theorem cutL_true (c : UInt8) : ∀ l, (cutL c l).2.2 = true → l = (cutL c l).1 ++ c :: (cutL c l).2.1
  | [], h => by cases h
  | b :: l, h => by
    have ih := cutL_true c l
    rw [cutL_cons] at h ⊢
    by_cases e : b = c
    · rw [if_pos e] at h ⊢; simp [e]
    · rw [if_neg e] at h ⊢
      split at h
      · rename_i x y ec
        rw [ec] at ih
        have := ih rfl
        dsimp only at this ⊢
        rw [this]; simp
      · cases h
theorem findK_le {w0 : List UInt8} : ∀ {f k : Nat}, findK w0 f = some k → k ≤ 13
  | 0, k, h => by cases h
  | f + 1, k, h => by
    rw [findK] at h
    split at h
    · have := Option.some.inj h; omega
    · exact findK_le h
theorem stepF_ok {s : List UInt8} (h : (stepF s).2 = true) : lineL (stepF s).1 = s ++ [10] ∧ okS (stepF s).1 ∧ (stepF s).1.t.size ≤ s.length := by
  unfold stepF at h ⊢
  split at h
  · cases h
  · rename_i k hk
    split at h
    · cases h
    · rename_i hn
      rw [if_neg hn]
      have hk13 := findK_le hk
      refine ⟨by simpa using h, ⟨?_, ?_, ?_, ?_⟩, ?_⟩
      · show i64 (k : Int); unfold i64; omega
      · show i64 (if _ then _ else _); split; exact atoi_i64 _; unfold i64; omega
      · show i64 (if _ then _ else _); split; exact atoi_i64 _; unfold i64; omega
      · show i64 (if _ then _ else _); split; exact atoi_i64 _; unfold i64; omega
      · show (if _ then _ else _ : ByteArray).size ≤ _
        split
        · have h1 := getD_le (n := s.length) (fun x hx => split_word 32 s x (List.mem_of_mem_tail hx)) (numsN k)
          have h2 : (bA (unhexL ((splitL 32 s).tail.getD (numsN k) []).tail)).size ≤ s.length := by rw [bA_size, unhexL_len, List.length_tail]; omega
          exact h2
        · exact Nat.zero_le _
theorem putL_cons (x : Stp) (l : List Stp) : putL (x :: l) = lineL x ++ putL l := rfl
theorem getF_inv : ∀ (f : Nat) (s : List UInt8) (j : Nat) (acc : List Stp), s.length ≤ f →
    ((getF f s j acc).2.2 = 10 ∧ 0 < (getF f s j acc).2.1 ∧ (getF f s j acc).1 = [] ∧ (getF f s j acc).2.1 ≤ j + f) ∨
    ((getF f s j acc).2.2 = 0 ∧ (getF f s j acc).2.1 = 0 ∧ ∃ m, (getF f s j acc).1 = acc ++ m ∧ putL m = s ∧ (∀ x ∈ m, okS x ∧ x.t.size ≤ s.length) ∧ m.length ≤ s.length)
  | 0, s, j, acc, h => by
    have : s = [] := List.eq_nil_of_length_eq_zero (by omega)
    subst this
    exact .inr ⟨rfl, rfl, [], by simp [getF], rfl, by simp, by simp⟩
  | f + 1, s, j, acc, h => by
    by_cases hs : s = []
    · subst hs
      rw [getF_end rfl]
      exact .inr ⟨rfl, rfl, [], by simp, rfl, by simp, by simp⟩
    · rw [getF_s, if_neg hs]
      split
      · rename_i hc
        have hcut := cutL_true 10 s hc.2
        have hok := stepF_ok hc.1
        have hlen := congrArg List.length hcut
        rw [List.length_append, List.length_cons] at hlen
        rcases getF_inv f (cutL 10 s).2.1 (j + 1) (acc ++ [(stepF (cutL 10 s).1).1]) (by omega) with ⟨h1, h2, h3, h5⟩ | ⟨h1, h2, m, h3, h4, h5, h6⟩
        · exact .inl ⟨h1, h2, h3, by omega⟩
        · refine .inr ⟨h1, h2, (stepF (cutL 10 s).1).1 :: m, by rw [h3]; simp, ?_, ?_, ?_⟩
          · rw [putL_cons, h4, hok.1]
            conv => rhs; rw [hcut]
            simp
          · intro x hx
            rcases List.mem_cons.1 hx with rfl | hx
            · exact ⟨hok.2.1, by have := hok.2.2; omega⟩
            · have := h5 x hx; exact ⟨this.1, by omega⟩
          · rw [List.length_cons]; omega
      · exact .inl ⟨rfl, Nat.succ_pos _, rfl, by dsimp only; omega⟩
theorem getL_inv (s : List UInt8) : ((getL s).2.2 = 10 ∧ 0 < (getL s).2.1 ∧ (getL s).1 = [] ∧ (getL s).2.1 ≤ s.length) ∨
    ((getL s).2.2 = 0 ∧ (getL s).2.1 = 0 ∧ putL (getL s).1 = s ∧ (∀ x ∈ (getL s).1, okS x ∧ x.t.size ≤ s.length) ∧ (getL s).1.length ≤ s.length) := by
  rcases getF_inv s.length s 0 [] (Nat.le_refl _) with ⟨h1, h2, h3, h4⟩ | ⟨h1, h2, m, h3, h4, h5, h6⟩
  · exact .inl ⟨h1, h2, h3, by unfold getL; omega⟩
  · have : (getL s).1 = m := by unfold getL; rw [h3]; rfl
    rw [this]
    exact .inr ⟨h1, h2, h4, h5, h6⟩

set_option maxRecDepth 100000 in
set_option maxHeartbeats 4000000 in
theorem again_c (s : ByteArray) (w : World) (GG : Glob w) : Calls Tryd.prog 4 #[.string s] w fun e w' => e = .returned (.bool true) ∧ Below w.heap.size w w' := by
  have HB : Below w.heap.size w w := Below.refl _ _
  refine Kw.enter Tryd.func4 rfl Tryd.ntmps4 rfl rfl ?_
  refine Kw.WC_seq (fun K1 hK1 => ?_)
  refine Kw.WC_region [some 2] rfl ?_
  refine Kw.WL_v rfl rfl rfl (Kw.R_assign rfl) ?_
  refine Kw.WL_nil ?_
  refine hK1 _ _ ?_; clear hK1 K1
  refine Kw.WC_seq (fun K2 hK2 => ?_)
  refine Kw.WC_seq (fun K3 hK3 => ?_)
  refine Kw.WC_region [some 6, some 7, some 8] rfl ?_
  refine Kw.WL_v rfl rfl rfl (Kw.R_move rfl) ?_
  refine Kw.WL_v rfl rfl rfl (Kw.R_lens Tryd.underlying9 rfl) ?_
  by_cases c4 : (2000 : Int) < (s.size : Int)
  ·
    refine Kw.WL_v rfl rfl rfl (Kw.R_gtr (z := true) rfl rfl (decide_eq_true c4)) ?_
    refine Kw.WL_nil ?_
    refine hK3 _ _ ?_; clear hK3 K3
    refine Kw.WC_true rfl ?_
    refine Kw.WC_seq (fun K5 hK5 => ?_)
    refine Kw.WC_region [some 9, some 2] rfl ?_
    refine Kw.WL_callc rfl rfl rfl rfl F.cl7 rfl (written_c w (GG.below HB)) ?_; intro w6 bw6
    replace HB := Kw.Below.then HB (Nat.le_refl _) bw6
    clear bw6
    refine Kw.WL_v rfl rfl rfl (Kw.R_assign rfl) ?_
    refine Kw.WL_nil ?_
    refine hK5 _ _ ?_; clear hK5 K5
    refine Kw.WC_ret ?_
    refine Kw.QR_then ?_; clear hK2 K2
    exact Kw.post_ret1 rfl rfl ⟨rfl, HB⟩
  ·
    refine Kw.WL_v rfl rfl rfl (Kw.R_gtr (z := false) rfl rfl (decide_eq_false c4)) ?_
    refine Kw.WL_nil ?_
    refine hK3 _ _ ?_; clear hK3 K3
    refine Kw.WC_false rfl ?_
    refine Kw.WC_skip ?_
    refine hK2 _ _ ?_; clear hK2 K2
    refine Kw.WC_seq (fun K7 hK7 => ?_)
    refine Kw.WC_region [some 11, some 12, some 10, some 13, some 14, some 15, some 3, some 4, some 5] rfl ?_
    refine Kw.WL_v rfl rfl rfl (Kw.R_move rfl) ?_
    refine Kw.WL_call rfl rfl rfl rfl F.cl9 rfl (get_c s (by omega) w (GG.below HB)) ?_; rintro _ w8 ⟨⟨lv, rfl, O_lv⟩, bw8⟩
    replace O_lv := O_lv.mono HB.size
    replace HB := Kw.Below.then HB (Nat.le_refl _) bw8
    clear bw8
    rcases getL_inv s.data.toList with ⟨h1, h2, h3, h4⟩ | ⟨h1, h2, h3, h4, h5⟩
    ·
      rw [h1]; rw [h3] at O_lv
      obtain ⟨ln, hln⟩ : ∃ x, (getL s.data.toList).2.1 = x := ⟨_, rfl⟩
      rw [hln]; rw [hln] at h2
      refine Kw.WL_v rfl rfl rfl (Kw.R_move rfl) ?_
      refine Kw.WL_v rfl rfl rfl (Kw.R_extract (v := lv) rfl rfl) ?_
      refine Kw.WL_v rfl rfl rfl (Kw.R_extract (v := .int .i64 (ln : Int)) rfl rfl) ?_
      refine Kw.WL_v rfl rfl rfl (Kw.R_extract (v := .int .i64 10) rfl rfl) ?_
      refine Kw.WL_v rfl rfl rfl (Kw.R_assign rfl) ?_
      refine Kw.WL_v rfl rfl rfl (Kw.R_assign rfl) ?_
      refine Kw.WL_v rfl rfl rfl (Kw.R_assign rfl) ?_
      refine Kw.WL_nil ?_
      refine hK7 _ _ ?_; clear hK7 K7
      refine Kw.WC_sub (l' := [(0, .string s), (3, lv), (4, .int .i64 (ln : Int)), (5, .int .i64 10)]) (Kw.Sub.cons rfl (Kw.Sub.cons rfl (Kw.Sub.cons rfl (Kw.Sub.cons rfl Kw.Sub.nil)))) ?_
      refine Kw.WC_seq (fun K9 hK9 => ?_)
      refine Kw.WC_seq (fun K10 hK10 => ?_)
      refine Kw.WC_region [some 16, some 17] rfl ?_
      refine Kw.WL_v rfl rfl rfl (Kw.R_move rfl) ?_
      refine Kw.WL_v rfl rfl rfl (Kw.R_nei (z := true) rfl rfl (by decide)) ?_
      refine Kw.WL_nil ?_
      refine hK10 _ _ ?_; clear hK10 K10
      refine Kw.WC_true rfl ?_
      refine Kw.WC_seq (fun K11 hK11 => ?_)
      refine Kw.WC_region [some 18, some 19, some 20, some 21, some 22, some 23, some 24, some 25, some 26, some 27, some 28, some 29, some 30, some 31, some 2] rfl ?_
      refine Kw.WL_v rfl rfl rfl (Kw.R_move rfl) ?_
      refine Kw.WL_v rfl rfl rfl (Kw.R_eqi (z := true) rfl rfl (by decide)) ?_
      refine Kw.WL_v rfl rfl rfl (Kw.R_move rfl) ?_
      refine Kw.WL_v rfl rfl rfl (Kw.R_move rfl) ?_
      refine Kw.WL_v rfl rfl rfl (Kw.R_gtr (z := true) rfl rfl (decide_eq_true (by omega))) ?_
      refine Kw.WL_v rfl rfl rfl (Kw.R_pickt rfl rfl) ?_
      refine Kw.WL_v rfl rfl rfl (Kw.R_move rfl) ?_
      refine Kw.WL_v rfl rfl rfl (Kw.R_move rfl) ?_
      refine Kw.WL_v rfl rfl rfl (Kw.R_leno Tryd.underlying22 rfl O_lv) ?_
      refine Kw.WL_v rfl rfl rfl (Kw.R_eqi (z := true) rfl rfl (by decide)) ?_
      refine Kw.WL_v rfl rfl rfl (Kw.R_pickt rfl rfl) ?_
      refine Kw.WL_v rfl rfl rfl (Kw.R_move rfl) ?_
      refine Kw.WL_callc rfl rfl rfl rfl F.cl7 rfl (written_c w8 (GG.below HB)) ?_; intro w12 bw12
      replace HB := Kw.Below.then HB (Nat.le_refl _) bw12
      replace O_lv := O_lv.call bw12
      clear bw12
      refine Kw.WL_v rfl rfl rfl (Kw.R_pickt rfl rfl) ?_
      refine Kw.WL_v rfl rfl rfl (Kw.R_assign rfl) ?_
      refine Kw.WL_nil ?_
      refine hK11 _ _ ?_; clear hK11 K11
      refine Kw.WC_sub (l' := [(2, .bool true)]) (Kw.Sub.cons rfl Kw.Sub.nil) ?_
      refine Kw.WC_ret ?_
      refine Kw.QR_then ?_; clear hK9 K9
      exact Kw.post_ret1 rfl rfl ⟨rfl, HB⟩
    ·
      rw [h1, h2]
      obtain ⟨lst, hls⟩ : ∃ x, (getL s.data.toList).1 = x := ⟨_, rfl⟩
      rw [hls] at O_lv h3 h4 h5
      refine Kw.WL_v rfl rfl rfl (Kw.R_move rfl) ?_
      refine Kw.WL_v rfl rfl rfl (Kw.R_extract (v := lv) rfl rfl) ?_
      refine Kw.WL_v rfl rfl rfl (Kw.R_extract (v := .int .i64 0) rfl rfl) ?_
      refine Kw.WL_v rfl rfl rfl (Kw.R_extract (v := .int .i64 0) rfl rfl) ?_
      refine Kw.WL_v rfl rfl rfl (Kw.R_assign rfl) ?_
      refine Kw.WL_v rfl rfl rfl (Kw.R_assign rfl) ?_
      refine Kw.WL_v rfl rfl rfl (Kw.R_assign rfl) ?_
      refine Kw.WL_nil ?_
      refine hK7 _ _ ?_; clear hK7 K7
      refine Kw.WC_sub (l' := [(0, .string s), (3, lv), (4, .int .i64 0), (5, .int .i64 0)]) (Kw.Sub.cons rfl (Kw.Sub.cons rfl (Kw.Sub.cons rfl (Kw.Sub.cons rfl Kw.Sub.nil)))) ?_
      refine Kw.WC_seq (fun K13 hK13 => ?_)
      refine Kw.WC_seq (fun K14 hK14 => ?_)
      refine Kw.WC_region [some 16, some 17] rfl ?_
      refine Kw.WL_v rfl rfl rfl (Kw.R_move rfl) ?_
      refine Kw.WL_v rfl rfl rfl (Kw.R_nei (z := false) rfl rfl (by decide)) ?_
      refine Kw.WL_nil ?_
      refine hK14 _ _ ?_; clear hK14 K14
      refine Kw.WC_false rfl ?_
      refine Kw.WC_skip ?_
      refine hK13 _ _ ?_; clear hK13 K13
      refine Kw.WC_seq (fun K15 hK15 => ?_)
      refine Kw.WC_region [some 32, some 33, some 34, some 35, some 36, some 37, some 38, some 39, some 40, some 41, some 42, some 2] rfl ?_
      refine Kw.WL_v rfl rfl rfl (Kw.R_move rfl) ?_
      refine Kw.WL_callc rfl rfl rfl rfl F.cl8 rfl (put_c lv lst (fun x hx => ⟨(h4 x hx).1, Nat.le_trans (h4 x hx).2 (by rw [size_list]; omega)⟩) (by rw [size_list] at h5; omega) (by rw [h3, size_list]; omega) w8 (GG.below HB) (Steps.own O_lv rfl)) ?_; intro w16 bw16
      replace HB := Kw.Below.then HB (Nat.le_refl _) bw16
      replace O_lv := O_lv.call bw16
      clear bw16
      refine Kw.WL_v rfl rfl rfl (Kw.R_move rfl) ?_
      refine Kw.WL_v rfl rfl rfl (Kw.R_eqs (z := true) rfl rfl (decide_eq_true (by rw [h3]; exact bytes_back s))) ?_
      refine Kw.WL_v rfl rfl rfl (Kw.R_move rfl) ?_
      refine Kw.WL_v rfl rfl rfl (Kw.R_move rfl) ?_
      refine Kw.WL_v rfl rfl rfl (Kw.R_eqi (z := true) rfl rfl (by decide)) ?_
      refine Kw.WL_v rfl rfl rfl (Kw.R_pickt rfl rfl) ?_
      refine Kw.WL_v rfl rfl rfl (Kw.R_move rfl) ?_
      refine Kw.WL_callc rfl rfl rfl rfl F.cl7 rfl (written_c w16 (GG.below HB)) ?_; intro w17 bw17
      replace HB := Kw.Below.then HB (Nat.le_refl _) bw17
      replace O_lv := O_lv.call bw17
      clear bw17
      refine Kw.WL_v rfl rfl rfl (Kw.R_pickt rfl rfl) ?_
      refine Kw.WL_v rfl rfl rfl (Kw.R_assign rfl) ?_
      refine Kw.WL_nil ?_
      refine hK15 _ _ ?_; clear hK15 K15
      refine Kw.WC_sub (l' := [(2, .bool true)]) (Kw.Sub.cons rfl Kw.Sub.nil) ?_
      refine Kw.WC_ret ?_
      exact Kw.post_ret1 rfl rfl ⟨rfl, HB⟩
end Go.Proofs.YtpggmnomcahijaaDoor.Fn
