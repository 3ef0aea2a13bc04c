/- What is put of steps is got. -/
import Derived.Test.YtpggmnomcahijaaDoorSa
import Derived.Lib.AtoiAllCases
namespace Go.Proofs.YtpggmnomcahijaaDoor.Fn
open Go Go.Proofs Go.RowKit
set_option linter.unusedVariables false
set_option linter.unusedSimpArgs false
/-! ### What is put is got -/
theorem parse_app : ∀ (l : List UInt8) (acc m : Nat) (r : List UInt8), Lib.parseUint10 acc l = .ok m → Lib.parseUint10 acc (l ++ r) = Lib.parseUint10 m r
  | [], acc, m, r, h => by
    simp only [Lib.parseUint10] at h
    injection h with h
    rw [h]; rfl
  | c :: l, acc, m, r, h => by
    rw [List.cons_append]
    simp only [Lib.parseUint10] at h ⊢
    split at h
    · rename_i h1
      rw [if_pos h1]
      split at h
      · cases h
      · rename_i h2
        rw [if_neg h2]
        split at h
        · cases h
        · rename_i h3
          rw [if_neg h3]
          exact parse_app l _ m r h
    · cases h
theorem toNat_ofNat {n : Nat} (h : n < 256) : (UInt8.ofNat n).toNat = n := by rw [UInt8.toNat_ofNat']; omega
theorem parse_one {acc d : Nat} (hd : d < 10) (h : acc * 10 + d < 18446744073709551616) : Lib.parseUint10 acc [UInt8.ofNat (48 + d)] = .ok (acc * 10 + d) := by
  simp only [Lib.parseUint10]
  rw [toNat_ofNat (by omega), if_pos (by omega), if_neg (by omega), if_neg (by omega)]
  congr 1; omega
theorem parse_dec : ∀ (k u : Nat), u < k → u < 18446744073709551616 → Lib.parseUint10 0 (Lib.decDigits u) = .ok u
  | 0, u, h, _ => by omega
  | k + 1, u, h, h2 => by
    rw [Lib.decDigits]
    by_cases e : u < 10
    · rw [dif_pos e, parse_one e (by omega)]; congr 1; omega
    · rw [dif_neg e, parse_app _ _ _ _ (parse_dec k (u / 10) (by omega) (by omega)), parse_one (by omega) (by omega)]
      congr 1; omega
theorem dec_rng : ∀ (k u : Nat), u < k → ∀ x ∈ Lib.decDigits u, 48 ≤ x.toNat ∧ x.toNat ≤ 57
  | 0, u, h, _, _ => by omega
  | k + 1, u, h, x, hx => by
    rw [Lib.decDigits] at hx
    by_cases e : u < 10
    · rw [dif_pos e, List.mem_singleton] at hx
      subst hx; rw [toNat_ofNat (by omega)]; omega
    · rw [dif_neg e, List.mem_append, List.mem_singleton] at hx
      rcases hx with hx | rfl
      · exact dec_rng k (u / 10) (by omega) x hx
      · rw [toNat_ofNat (by omega)]; omega
theorem dec_ne (u : Nat) : Lib.decDigits u ≠ [] := by
  rw [Lib.decDigits]; split <;> simp
theorem atoi_itoa {n : Int} (h : i64 n) : atoiV (itoaL n) = n := by
  rw [itoaL_eq h]
  unfold i64 at h
  unfold atoiV Lib.itoa
  by_cases hn : n < 0
  · rw [if_pos hn, Lib.atoiAll_minus, Lib.parseMag, if_neg (dec_ne _), parse_dec (n.natAbs + 1) _ (by omega) (by omega)]
    simp only [Lib.signed]
    rw [if_neg (by omega)]
    show -((n.natAbs : Nat) : Int) = n
    omega
  · rw [if_neg hn]
    obtain ⟨c, r, hc⟩ : ∃ c r, Lib.decDigits n.toNat = c :: r := by
      cases e : Lib.decDigits n.toNat with
      | nil => exact absurd e (dec_ne _)
      | cons c r => exact ⟨c, r, rfl⟩
    have hr := dec_rng (n.toNat + 1) n.toNat (by omega) c (by rw [hc]; exact List.mem_cons_self)
    rw [hc, Lib.atoiAll_plain c r (by omega) (by omega), ← hc, Lib.parseMag, if_neg (dec_ne _), parse_dec (n.toNat + 1) _ (by omega) (by omega)]
    simp only [Lib.signless]
    rw [if_neg (by omega)]
    show ((n.toNat : Nat) : Int) = n
    omega
/-- A byte that stands in no word's way. -/
def clean (l : List UInt8) : Prop := ∀ x ∈ l, x ≠ 32 ∧ x ≠ 10
theorem clean_itoa {n : Int} (h : i64 n) : clean (itoaL n) := by
  rw [itoaL_eq h]
  intro x hx
  have hd : 45 = x.toNat ∨ 48 ≤ x.toNat := by
    unfold Lib.itoa at hx
    split at hx
    · rcases List.mem_cons.1 hx with rfl | hx
      · exact .inl rfl
      · exact .inr (dec_rng _ _ (Nat.lt_succ_self _) x hx).1
    · exact .inr (dec_rng _ _ (Nat.lt_succ_self _) x hx).1
  constructor <;> rintro rfl <;> revert hd <;> decide
theorem dg_clean : ∀ n, n < 16 → dg n ≠ 32 ∧ dg n ≠ 10 := by decide +kernel
theorem clean_hex (l : List UInt8) : clean (hexL l) := by
  intro x hx
  unfold hexL at hx
  rcases List.mem_cons.1 hx with rfl | hx
  · decide
  · obtain ⟨b, _, hb⟩ := List.mem_flatMap.1 hx
    have := UInt8.toNat_lt b
    rcases List.mem_cons.1 hb with rfl | hb
    · exact dg_clean _ (by omega)
    · rcases List.mem_cons.1 hb with rfl | hb
      · exact dg_clean _ (by omega)
      · cases hb
theorem clean_word (k : Nat) : clean (wordL k) := by
  unfold wordL
  rcases Nat.lt_or_ge k 14 with h | h
  · have : k = 0 ∨ k = 1 ∨ k = 2 ∨ k = 3 ∨ k = 4 ∨ k = 5 ∨ k = 6 ∨ k = 7 ∨ k = 8 ∨ k = 9 ∨ k = 10 ∨ k = 11 ∨ k = 12 ∨ k = 13 := by omega
    unfold clean
    rcases this with rfl | rfl | rfl | rfl | rfl | rfl | rfl | rfl | rfl | rfl | rfl | rfl | rfl | rfl <;> decide
  · rw [List.getD_eq_getElem?_getD, List.getElem?_eq_none (by simpa [tabL] using h)]
    intro x hx; cases hx
theorem pair_dg : ∀ n, n < 256 → pairV (dg (n / 16)) (dg (n % 16)) = UInt8.ofNat n := by decide +kernel
theorem unhex_hex : ∀ l : List UInt8, unhexL (hexL l).tail = l
  | [] => rfl
  | b :: l => by
    have e : (hexL (b :: l)).tail = dg (b.toNat / 16) :: dg (b.toNat % 16) :: (hexL l).tail := by unfold hexL; simp
    rw [e, unhexL, unhex_hex l, pair_dg _ (UInt8.toNat_lt b), UInt8.ofNat_toNat]
theorem split_clean : ∀ (w r : List UInt8), clean w → splitL 32 (w ++ 32 :: r) = w :: splitL 32 r
  | [], r, _ => by rw [List.nil_append, splitL_cons, if_pos rfl]
  | b :: w, r, h => by
    rw [List.cons_append, splitL_cons, if_neg (h b List.mem_cons_self).1, split_clean w r (fun x hx => h x (List.mem_cons_of_mem _ hx))]
theorem split_last : ∀ (w : List UInt8), clean w → splitL 32 w = [w]
  | [], _ => rfl
  | b :: w, h => by
    rw [splitL_cons, if_neg (h b List.mem_cons_self).1, split_last w (fun x hx => h x (List.mem_cons_of_mem _ hx))]
theorem split_join : ∀ (w : List UInt8) (ws : List (List UInt8)), (∀ x ∈ w :: ws, clean x) → splitL 32 (Lib.join (w :: ws) [32]) = w :: ws
  | w, [], h => by
    have e : Lib.join [w] [32] = w := by simp [Lib.join, List.intercalate]
    rw [e, split_last w (h w List.mem_cons_self)]
  | w, v :: ws, h => by
    have e : Lib.join (w :: v :: ws) [32] = w ++ 32 :: Lib.join (v :: ws) [32] := by simp [Lib.join, List.intercalate, List.intersperse]
    rw [e, split_clean w _ (h w List.mem_cons_self), split_join v ws (fun x hx => h x (List.mem_cons_of_mem _ hx))]
theorem join_clean10 : ∀ (ws : List (List UInt8)), (∀ x ∈ ws, clean x) → ∀ x ∈ Lib.join ws [32], x ≠ 10
  | [], _, x, hx => by simp [Lib.join, List.intercalate] at hx
  | [w], h, x, hx => by
    have e : Lib.join [w] [32] = w := by simp [Lib.join, List.intercalate]
    rw [e] at hx; exact (h w List.mem_cons_self x hx).2
  | w :: v :: ws, h, x, hx => by
    have e : Lib.join (w :: v :: ws) [32] = w ++ 32 :: Lib.join (v :: ws) [32] := by simp [Lib.join, List.intercalate, List.intersperse]
    rw [e, List.mem_append, List.mem_cons] at hx
    rcases hx with hx | rfl | hx
    · exact (h w List.mem_cons_self x hx).2
    · decide
    · exact join_clean10 (v :: ws) (fun y hy => h y (List.mem_cons_of_mem _ hy)) x hx
theorem cut_clean : ∀ (w r : List UInt8), (∀ x ∈ w, x ≠ 10) → cutL 10 (w ++ 10 :: r) = (w, r, true)
  | [], r, _ => by rw [List.nil_append, cutL_cons, if_pos rfl]
  | b :: w, r, h => by
    rw [List.cons_append, cutL_cons, if_neg (h b List.mem_cons_self), cut_clean w r (fun x hx => h x (List.mem_cons_of_mem _ hx))]
theorem findK_word : ∀ k, 1 ≤ k → k ≤ 13 → findK (wordL k) 13 = some k := by
  intro k h1 h2
  have : k = 1 ∨ k = 2 ∨ k = 3 ∨ k = 4 ∨ k = 5 ∨ k = 6 ∨ k = 7 ∨ k = 8 ∨ k = 9 ∨ k = 10 ∨ k = 11 ∨ k = 12 ∨ k = 13 := by omega
  rcases this with rfl | rfl | rfl | rfl | rfl | rfl | rfl | rfl | rfl | rfl | rfl | rfl | rfl <;> decide +kernel
/-- A step with what its kind uses. -/
def normS (x : Stp) : Stp := ⟨x.kind, if 0 < numsN x.kind.toNat then x.a else 0, if 1 < numsN x.kind.toNat then x.b else 0, if 2 < numsN x.kind.toNat then x.c else 0, if txtB x.kind.toNat then x.t else ⟨#[]⟩⟩
theorem numsOf_norm (x : Stp) : numsOf (normS x) = numsOf x := by
  unfold numsOf normS
  have h := numsN_le x.kind.toNat
  have : numsN x.kind.toNat = 0 ∨ numsN x.kind.toNat = 1 ∨ numsN x.kind.toNat = 2 ∨ numsN x.kind.toNat = 3 := by omega
  rcases this with e | e | e | e <;> simp [e]
theorem words_norm (x : Stp) : wordsOf (normS x) = wordsOf x := by
  unfold wordsOf
  rw [numsOf_norm]
  have e : (normS x).kind = x.kind := rfl
  rw [e]
  split
  · rename_i h
    have e2 : (normS x).t = x.t := by unfold normS; rw [if_pos h]
    rw [e2]
  · rfl
theorem good_norm (x : Stp) : good (normS x) ↔ good x := Iff.rfl
theorem line_norm (x : Stp) : lineL (normS x) = lineL x := by
  unfold lineL
  by_cases h : good x
  · rw [if_pos h, if_pos ((good_norm x).2 h), words_norm]
  · rw [if_neg h, if_neg (fun h2 => h ((good_norm x).1 h2))]
def bodyL (x : Stp) : List UInt8 := Lib.join (wordsOf x) [32]
theorem words_clean {x : Stp} (h : okS x) : ∀ y ∈ wordsOf x, clean y := by
  intro y hy
  unfold wordsOf at hy
  rw [List.cons_append] at hy
  rcases List.mem_cons.1 hy with rfl | hy
  · exact clean_word _
  rcases List.mem_append.1 hy with hy | hy
  · obtain ⟨n, hn, rfl⟩ := List.mem_map.1 hy
    apply clean_itoa
    have hm : n ∈ [x.a, x.b, x.c] := List.mem_of_mem_take hn
    simp only [List.mem_cons, List.not_mem_nil, or_false] at hm
    rcases hm with rfl | rfl | rfl
    · exact h.2.1
    · exact h.2.2.1
    · exact h.2.2.2
  · split at hy
    · rw [List.mem_singleton] at hy; subst hy; exact clean_hex _
    · cases hy
theorem words_cons (x : Stp) : wordsOf x = wordL x.kind.toNat :: ((numsOf x).map itoaL ++ (if txtB x.kind.toNat then [hexL x.t.data.toList] else [])) := by unfold wordsOf; rw [List.cons_append]
theorem numsOf_len (x : Stp) : (numsOf x).length = numsN x.kind.toNat := by
  unfold numsOf; have := numsN_le x.kind.toNat; rw [List.length_take]; simp; omega
theorem stepF_body {x : Stp} (hg : good x) (h : okS x) : stepF (bodyL x) = (normS x, true) := by
  have hs : splitL 32 (bodyL x) = wordsOf x := by
    unfold bodyL; rw [words_cons]; exact split_join _ _ (by rw [← words_cons]; exact words_clean h)
  obtain ⟨k, hk⟩ : ∃ k : Nat, x.kind = k := ⟨x.kind.toNat, by have := hg.1; omega⟩
  have hk1 : 1 ≤ k ∧ k ≤ 13 := by have := hg.1; have := hg.2; omega
  have hkn : x.kind.toNat = k := by omega
  have hw0 : (wordsOf x).getD 0 [] = wordL k := by rw [words_cons, hkn]; rfl
  have hln : numsN k ≤ (wordsOf x).length - 1 := by
    rw [words_cons, List.length_cons, List.length_append, List.length_map, numsOf_len, hkn]; omega
  have hX : stepX k (wordsOf x).tail = normS x := by
    rw [words_cons, List.tail_cons]
    have hn3 := numsN_le k
    have hget : ∀ i (hi : i < numsN k), ((numsOf x).map itoaL ++ (if txtB x.kind.toNat then [hexL x.t.data.toList] else [])).getD i [] = itoaL (abc x.a x.b x.c i) := by
      intro i hi
      have hil : i < (numsOf x).length := by rw [numsOf_len, hkn]; exact hi
      rw [List.getD_eq_getElem?_getD, List.getElem?_append_left (by rw [List.length_map]; exact hil), List.getElem?_map]
      have : (numsOf x)[i]? = some (abc x.a x.b x.c i) := by
        unfold numsOf
        rw [List.getElem?_take, hkn, if_pos hi]
        have : i = 0 ∨ i = 1 ∨ i = 2 := by omega
        rcases this with rfl | rfl | rfl <;> rfl
      rw [this]; rfl
    unfold stepX normS
    rw [hkn]
    have ha : (if 0 < numsN k then atoiV (((numsOf x).map itoaL ++ (if txtB k then [hexL x.t.data.toList] else [])).getD 0 []) else 0) = if 0 < numsN k then x.a else 0 := by
      split
      · rename_i hh; have := hget 0 hh; rw [hkn] at this; rw [this]; exact atoi_itoa h.2.1
      · rfl
    have hb : (if 1 < numsN k then atoiV (((numsOf x).map itoaL ++ (if txtB k then [hexL x.t.data.toList] else [])).getD 1 []) else 0) = if 1 < numsN k then x.b else 0 := by
      split
      · rename_i hh; have := hget 1 hh; rw [hkn] at this; rw [this]; exact atoi_itoa h.2.2.1
      · rfl
    have hc : (if 2 < numsN k then atoiV (((numsOf x).map itoaL ++ (if txtB k then [hexL x.t.data.toList] else [])).getD 2 []) else 0) = if 2 < numsN k then x.c else 0 := by
      split
      · rename_i hh; have := hget 2 hh; rw [hkn] at this; rw [this]; exact atoi_itoa h.2.2.2
      · rfl
    rw [ha, hb, hc, hk]
    congr 1
    by_cases ht : txtB k = true
    · have hl : ((numsOf x).map itoaL ++ [hexL x.t.data.toList]).length = numsN k + 1 := by rw [List.length_append, List.length_map, numsOf_len, hkn]; rfl
      simp only [ht, if_true]
      rw [if_pos ⟨trivial, by rw [hl]; omega⟩, List.getD_eq_getElem?_getD, List.getElem?_append_right (by rw [List.length_map, numsOf_len, hkn]; omega), List.length_map, numsOf_len, hkn, Nat.sub_self]
      show (⟨(unhexL (hexL x.t.data.toList).tail).toArray⟩ : ByteArray) = x.t
      rw [unhex_hex]
    · simp [ht]
  have hF := stepF_hit (s := bodyL x) (k := k) (X := normS x) (by rw [hs, hw0]; exact findK_word k hk1.1 hk1.2) (by rw [hs]; exact hln) (by rw [hs]; exact hX)
  rw [hF, line_norm]
  have : lineL x = bodyL x ++ [10] := by unfold lineL bodyL; rw [if_pos hg]
  rw [decide_eq_true this]
def normL (l : List Stp) : List Stp := (l.filter fun x => decide (good x)).map normS
theorem normL_cons (x : Stp) (l : List Stp) : normL (x :: l) = if good x then normS x :: normL l else normL l := by
  unfold normL
  by_cases h : good x <;> simp [List.filter_cons, h]
theorem getF_put : ∀ (l : List Stp) (f j : Nat) (acc : List Stp), (∀ x ∈ l, okS x) → (putL l).length ≤ f → getF f (putL l) j acc = (acc ++ normL l, 0, 0)
  | [], f, j, acc, _, _ => by
    show getF f [] j acc = _
    rw [getF_end rfl]; simp [normL]
  | x :: l, f, j, acc, h, hf => by
    by_cases hg : good x
    · have hb : lineL x = bodyL x ++ [10] := by unfold lineL bodyL; rw [if_pos hg]
      have e : putL (x :: l) = bodyL x ++ 10 :: putL l := by rw [putL_cons, hb]; simp
      have hcut := cut_clean (bodyL x) (putL l) (join_clean10 _ (words_clean (h x List.mem_cons_self)))
      have hst := stepF_body hg (h x List.mem_cons_self)
      have hl := congrArg List.length e
      rw [List.length_append, List.length_cons] at hl
      obtain ⟨f', rfl⟩ : ∃ f', f = f' + 1 := ⟨f - 1, by omega⟩
      rw [e, getF_step (X := normS x) (one := bodyL x) (rest := putL l) (by simp) (by rw [hcut]) (by rw [hcut]) (by rw [hcut]) (by rw [hst]) (by rw [hst]),
        getF_put l f' (j + 1) _ (fun y hy => h y (List.mem_cons_of_mem _ hy)) (by omega), normL_cons, if_pos hg, List.append_assoc]; rfl
    · have e : putL (x :: l) = putL l := by rw [putL_cons]; unfold lineL; rw [if_neg hg]; rfl
      rw [e] at hf ⊢
      rw [getF_put l f j acc (fun y hy => h y (List.mem_cons_of_mem _ hy)) hf, normL_cons, if_neg hg]
theorem getL_put (l : List Stp) (h : ∀ x ∈ l, okS x) : getL (putL l) = (normL l, 0, 0) := by
  unfold getL; rw [getF_put l _ 0 [] h (Nat.le_refl _)]; rfl
theorem putL_norm : ∀ l : List Stp, putL (normL l) = putL l
  | [] => rfl
  | x :: l => by
    rw [normL_cons, putL_cons, ← putL_norm l]
    split
    · rw [putL_cons, line_norm]
    · rename_i hg
      have : lineL x = [] := by unfold lineL; rw [if_neg hg]
      rw [this]; rfl
theorem normL_app (a b : List Stp) : normL (a ++ b) = normL a ++ normL b := by unfold normL; simp
theorem normL_at {l : List Stp} {i : Nat} (hi : i < l.length) (hg : good l[i]) : (normL l)[(normL (l.take i)).length]? = some (normS l[i]) := by
  have e : l = l.take i ++ l[i] :: l.drop (i + 1) := by rw [← List.drop_eq_getElem_cons hi, List.take_append_drop]
  have e2 : normL l = normL (l.take i) ++ (normS l[i] :: normL (l.drop (i + 1))) := by
    conv => lhs; rw [e]
    rw [normL_app, normL_cons, if_pos hg]
  rw [e2, List.getElem?_append_right (Nat.le_refl _), Nat.sub_self]; rfl
theorem normL_take {l : List Stp} {i : Nat} (hi : i < l.length) : (normL (l.take (i + 1))).length = (normL (l.take i)).length + if good l[i] then 1 else 0 := by
  rw [take_snocL hi, normL_app, List.length_append]
  congr 1
  rw [normL_cons]; split <;> rfl
theorem normL_le (l : List Stp) : (normL l).length ≤ l.length := by unfold normL; rw [List.length_map]; exact List.length_filter_le _ _
theorem norm_ok {x : Stp} (h : okS x ∧ x.t.size ≤ 10000000) : okS (normS x) ∧ (normS x).t.size ≤ 10000000 := by
  refine ⟨⟨h.1.1, ?_, ?_, ?_⟩, ?_⟩
  · show i64 (if _ then _ else _); split; exact h.1.2.1; unfold i64; omega
  · show i64 (if _ then _ else _); split; exact h.1.2.2.1; unfold i64; omega
  · show i64 (if _ then _ else _); split; exact h.1.2.2.2; unfold i64; omega
  · show (if _ then _ else _ : ByteArray).size ≤ _
    split
    · exact h.2
    · exact Nat.zero_le _
theorem normL_ok {l : List Stp} (h : okL l) : okL (normL l) := by
  intro y hy
  unfold normL at hy
  obtain ⟨x, hx, rfl⟩ := List.mem_map.1 hy
  exact norm_ok (h x ((List.mem_filter.1 hx).1))
theorem putL_len : ∀ (l : List Stp) (n : Nat), (∀ x ∈ l, x.t.size ≤ n) → (putL l).length ≤ l.length * (101 + 2 * n)
  | [], n, _ => by simp [putL]
  | x :: l, n, h => by
    have h1 := lineL_len x
    have h2 := h x List.mem_cons_self
    have h3 := putL_len l n (fun y hy => h y (List.mem_cons_of_mem _ hy))
    rw [putL_cons, List.length_append, List.length_cons, Nat.add_mul]
    omega
theorem same_norm {x : Stp} (hg : good x) : decide (lineL (normS x) ≠ [] ∧ lineL (normS x) = lineL x) = true := by
  apply decide_eq_true
  refine ⟨?_, line_norm x⟩
  rw [line_norm]; unfold lineL; rw [if_pos hg]; simp

theorem get_put (l : List Stp) (h : okL l) (hp : (putL l).length ≤ 1000000) (w : World) (GG : Glob w) : Calls Tryd.prog 9 #[.string (bA (putL l))] w (Kw.Back fun v w' => (∃ lv, v = .tuple #[lv, .int .i64 0, .int .i64 0] ∧ Kw.Own w' w.heap.size 30 5 lv (normL l).length (stpsV (normL l))) ∧ Below w.heap.size w w') := by
  have := get_c (bA (putL l)) (by rw [bA_size]; exact hp) w GG
  rw [bA_back, getL_put l (fun x hx => (h x hx).1)] at this
  exact this
theorem put_norm (v : Value) (l : List Stp) (h : okL l) (hn : l.length ≤ 1000000) (hp : (putL l).length ≤ 1000000000) (w : World) (GG : Glob w) (hv : Steps w v (normL l)) : Calls Tryd.prog 8 #[v] w fun e w' => e = .returned (.string (bA (putL l))) ∧ Below w.heap.size w w' := by
  have := put_c v (normL l) (normL_ok h) (Nat.le_trans (normL_le l) hn) (by rw [putL_norm]; exact hp) w GG hv
  rw [putL_norm] at this
  exact this
theorem put_small {l : List Stp} (h : ∀ x ∈ l, x.t.size ≤ 3000) (hn : l.length ≤ 60) : (putL l).length ≤ 400000 :=
  Nat.le_trans (putL_len l 3000 h) (Nat.le_trans (Nat.mul_le_mul_right _ hn) (by decide))

set_option maxRecDepth 100000 in
set_option maxHeartbeats 4000000 in
theorem great_c (v : Value) (l : List Stp) (hl63 : l.length ≤ 9223372036854775807) (w : World) (hv : Steps w v l) : Calls Tryd.prog 6 #[v, .int .i64 60] w (Kw.Back fun v w' => (∃ z, v = .bool z ∧ (z = false → (∀ x ∈ l, x.t.size ≤ 3000) ∧ l.length ≤ 60)) ∧ Below w.heap.size w w') := by
  have HB : Below w.heap.size w w := Below.refl _ _
  obtain ⟨p, c, rfl, hv⟩ := hv
  refine Kw.enter Tryd.func6 rfl Tryd.ntmps6 rfl rfl ?_
  refine Kw.WC_seq (fun K1 hK1 => ?_)
  refine Kw.WC_region [some 4] rfl ?_
  refine Kw.WL_v rfl rfl rfl (Kw.R_assign rfl) ?_
  refine Kw.WL_nil ?_
  refine hK1 _ _ ?_; clear hK1 K1
  refine Kw.WC_seq (fun K2 hK2 => ?_)
  refine Kw.WC_seq (fun K3 hK3 => ?_)
  refine Kw.WC_region [some 5] rfl ?_
  refine Kw.WL_v rfl rfl rfl (Kw.R_assign rfl) ?_
  refine Kw.WL_nil ?_
  refine hK3 _ _ ?_; clear hK3 K3
  refine Kw.WC_block ?_
  refine Kw.WC_loop (ι := Nat) (fun (i : Nat) (ww : World) => (i ≤ l.length ∧ ∀ x ∈ l.take i, x.t.size ≤ 3000) ∧ Below w.heap.size w ww) (fun (i : Nat) => [(0, .slice p l.length c), (1, .int .i64 60), (5, .int .i64 (i : Int))]) (fun (i : Nat) => l.length - i) 0 ⟨⟨Nat.zero_le _, fun x hx => by cases hx⟩, HB⟩ (Kw.Sub.cons rfl (Kw.Sub.cons rfl (Kw.Sub.cons rfl Kw.Sub.nil))) ?_
  clear HB
  rintro i w4 ⟨⟨hi, hall⟩, HB⟩
  refine Kw.WC_seq (fun K5 hK5 => ?_)
  refine Kw.WC_seq (fun K6 hK6 => ?_)
  refine Kw.WC_region [some 6, some 7, some 8, some 9] rfl ?_
  refine Kw.WL_v rfl rfl rfl (Kw.R_move rfl) ?_
  refine Kw.WL_v rfl rfl rfl (Kw.R_move rfl) ?_
  refine Kw.WL_v rfl rfl rfl (Kw.R_lenl Tryd.underlying22 rfl) ?_
  by_cases c7 : (i : Int) < (l.length : Int)
  ·
    refine Kw.WL_v rfl rfl rfl (Kw.R_lss (z := true) rfl rfl (decide_eq_true c7)) ?_
    have hil : i < l.length := by omega
    obtain ⟨gq, oq, rfl, hgq, hcq⟩ := hv.resolve_left (fun h => by rw [h] at hil; exact absurd hil (Nat.not_lt_zero _))
    obtain ⟨x, hx⟩ : ∃ x, x = l[i]'hil := ⟨_, rfl⟩
    have hcx := hcq i hil; rw [← hx] at hcx
    refine Kw.WL_nil ?_
    refine hK6 _ _ ?_; clear hK6 K6
    refine Kw.WC_true rfl ?_
    refine Kw.WC_skip ?_
    refine hK5 _ _ ?_; clear hK5 K5
    refine Kw.WC_seq (fun K8 hK8 => ?_)
    refine Kw.WC_block ?_
    refine Kw.WC_seq (fun K9 hK9 => ?_)
    refine Kw.WC_region [some 12, some 13, some 14, some 15, some 16, some 17, some 18] rfl ?_
    refine Kw.WL_v rfl rfl rfl (Kw.R_move rfl) ?_
    refine Kw.WL_v rfl rfl rfl (Kw.R_move rfl) ?_
    refine Kw.WL_v rfl rfl rfl (Kw.R_indexAddrS (i := i) (o' := oq + i * 5) rfl rfl Tryd.underlying22 F.sz30 (by omega) (by omega)) ?_
    refine Kw.WL_v rfl rfl rfl (Kw.R_fieldAddr (o' := oq + i * 5 + 4) (k := 0) rfl Tryd.underlying30 rfl F.sz9 rfl) ?_
    refine Kw.WL_v rfl rfl rfl (Kw.R_loadc (v := .string x.t) rfl Tryd.underlying9 rfl ((HB.cell (p := ⟨gq, oq + i * 5 + 4, none⟩) hgq).trans (hcx 4 _ rfl))) ?_
    refine Kw.WL_v rfl rfl rfl (Kw.R_lens Tryd.underlying9 rfl) ?_
    by_cases c10 : (3000 : Int) < (x.t.size : Int)
    ·
      refine Kw.WL_v rfl rfl rfl (Kw.R_gtr (z := true) rfl rfl (decide_eq_true c10)) ?_
      refine Kw.WL_nil ?_
      refine hK9 _ _ ?_; clear hK9 K9
      refine Kw.WC_sub (l' := [(0, .slice (some ⟨gq, oq, none⟩) l.length c), (1, .int .i64 60), (5, .int .i64 (i : Int)), (18, .bool true)]) (Kw.Sub.cons rfl (Kw.Sub.cons rfl (Kw.Sub.cons rfl (Kw.Sub.cons rfl Kw.Sub.nil)))) ?_
      refine Kw.WC_true rfl ?_
      refine Kw.WC_seq (fun K11 hK11 => ?_)
      refine Kw.WC_region [some 4] rfl ?_
      refine Kw.WL_v rfl rfl rfl (Kw.R_assign rfl) ?_
      refine Kw.WL_nil ?_
      refine hK11 _ _ ?_; clear hK11 K11
      refine Kw.WC_ret ?_
      refine Kw.QR_block ?_
      refine Kw.QR_then ?_; clear hK8 K8
      refine Kw.QR_then ?_
      refine Kw.QR_block ?_
      refine Kw.QR_then ?_; clear hK2 K2
      exact Kw.post_ret1 rfl rfl ⟨_, rfl, ⟨⟨true, rfl, fun h => by cases h⟩, HB⟩⟩
    ·
      refine Kw.WL_v rfl rfl rfl (Kw.R_gtr (z := false) rfl rfl (decide_eq_false c10)) ?_
      refine Kw.WL_nil ?_
      refine hK9 _ _ ?_; clear hK9 K9
      refine Kw.WC_sub (l' := [(0, .slice (some ⟨gq, oq, none⟩) l.length c), (1, .int .i64 60), (5, .int .i64 (i : Int)), (18, .bool false)]) (Kw.Sub.cons rfl (Kw.Sub.cons rfl (Kw.Sub.cons rfl (Kw.Sub.cons rfl Kw.Sub.nil)))) ?_
      refine Kw.WC_false rfl ?_
      refine Kw.WC_skip ?_
      refine Kw.QN_block ?_
      refine hK8 _ _ ?_; clear hK8 K8
      refine Kw.WC_region [some 10, some 11, some 5] rfl ?_
      refine Kw.WL_v rfl rfl rfl (Kw.R_move rfl) ?_
      refine Kw.WL_v rfl rfl rfl (Kw.R_add (c := ((i + 1 : Nat) : Int)) rfl rfl (by rw [Kw.wrap_i64 (by omega)]; omega)) ?_
      refine Kw.WL_v rfl rfl rfl (Kw.R_assign rfl) ?_
      refine Kw.WL_nil ?_
      refine Kw.QN_round (i + 1) ⟨⟨by omega, fun y hy => by
          rw [take_snocL hil, ← hx, List.mem_append, List.mem_singleton] at hy
          rcases hy with hy | rfl
          · exact hall y hy
          · omega⟩, HB⟩ (by omega) (Kw.Sub.cons rfl (Kw.Sub.cons rfl (Kw.Sub.cons rfl Kw.Sub.nil)))
  ·
    refine Kw.WL_v rfl rfl rfl (Kw.R_lss (z := false) rfl rfl (decide_eq_false c7)) ?_
    obtain rfl : i = l.length := by omega
    rw [List.take_length] at hall
    refine Kw.WL_nil ?_
    refine hK6 _ _ ?_; clear hK6 K6
    refine Kw.WC_false rfl ?_
    refine Kw.WC_exit ?_
    refine Kw.QE_then ?_; clear hK5 K5
    refine Kw.QE_then ?_
    refine Kw.QE_here ?_
    refine hK2 _ _ ?_; clear hK2 K2
    refine Kw.WC_seq (fun K12 hK12 => ?_)
    refine Kw.WC_region [some 19, some 20, some 21, some 22, some 4] rfl ?_
    refine Kw.WL_v rfl rfl rfl (Kw.R_move rfl) ?_
    refine Kw.WL_v rfl rfl rfl (Kw.R_lenl Tryd.underlying22 rfl) ?_
    refine Kw.WL_v rfl rfl rfl (Kw.R_move rfl) ?_
    obtain ⟨zz, hzz⟩ : ∃ z : Bool, decide ((60 : Int) < (l.length : Int)) = z := ⟨_, rfl⟩
    refine Kw.WL_v rfl rfl rfl (Kw.R_gtr rfl rfl hzz) ?_
    refine Kw.WL_v rfl rfl rfl (Kw.R_assign rfl) ?_
    refine Kw.WL_nil ?_
    refine hK12 _ _ ?_; clear hK12 K12
    refine Kw.WC_sub (l' := [(4, .bool zz)]) (Kw.Sub.cons rfl Kw.Sub.nil) ?_
    refine Kw.WC_ret ?_
    exact Kw.post_ret1 rfl rfl ⟨_, rfl, ⟨⟨zz, rfl, fun h => ⟨hall, by rw [h] at hzz; have := of_decide_eq_false hzz; omega⟩⟩, HB⟩⟩

set_option maxRecDepth 100000 in
set_option maxHeartbeats 4000000 in
theorem back_c (v : Value) (l : List Stp) (hl63 : l.length ≤ 9223372036854775807) (hok : ∀ x ∈ l, okS x) (w : World) (GG : Glob w) (hv : Steps w v l) : Calls Tryd.prog 3 #[v] w fun e w' => e = .returned (.bool true) ∧ Below w.heap.size w w' := by
  have HB : Below w.heap.size w w := Below.refl _ _
  have hS := hv
  obtain ⟨p, c, rfl, hv⟩ := hv
  refine Kw.enter Tryd.func3 rfl Tryd.ntmps3 rfl rfl ?_
  refine Kw.WC_seq (fun K1 hK1 => ?_)
  refine Kw.WC_region [some 2] rfl ?_
  refine Kw.WL_v rfl rfl rfl (Kw.R_assign rfl) ?_
  refine Kw.WL_nil ?_
  refine hK1 _ _ ?_; clear hK1 K1
  refine Kw.WC_seq (fun K2 hK2 => ?_)
  refine Kw.WC_seq (fun K3 hK3 => ?_)
  refine Kw.WC_region [some 9, some 10] rfl ?_
  refine Kw.WL_v rfl rfl rfl (Kw.R_move rfl) ?_
  refine Kw.WL_call rfl rfl rfl rfl F.cl6 rfl (great_c _ l hl63 w (hS.below HB)) ?_; rintro _ w4 ⟨⟨zb, rfl, hzb⟩, bw4⟩
  replace HB := Kw.Below.then HB (Nat.le_refl _) bw4
  clear bw4
  cases zb
  ·
    obtain ⟨hsz, hn60⟩ := hzb rfl
    have okl : okL l := fun x hx => ⟨hok x hx, Nat.le_trans (hsz x hx) (by decide)⟩
    have hpl := put_small hsz hn60
    have hnl := normL_le l
    refine Kw.WL_nil ?_
    refine hK3 _ _ ?_; clear hK3 K3
    refine Kw.WC_false rfl ?_
    refine Kw.WC_skip ?_
    refine hK2 _ _ ?_; clear hK2 K2
    refine Kw.WC_seq (fun K5 hK5 => ?_)
    refine Kw.WC_region [some 12, some 13, some 3] rfl ?_
    refine Kw.WL_v rfl rfl rfl (Kw.R_move rfl) ?_
    refine Kw.WL_callc rfl rfl rfl rfl F.cl8 rfl (put_c _ l okl (by omega) (by omega) w4 (GG.below HB) (hS.below HB)) ?_; intro w6 bw6
    replace HB := Kw.Below.then HB (Nat.le_refl _) bw6
    clear bw6
    refine Kw.WL_v rfl rfl rfl (Kw.R_assign rfl) ?_
    refine Kw.WL_nil ?_
    refine hK5 _ _ ?_; clear hK5 K5
    refine Kw.WC_seq (fun K7 hK7 => ?_)
    refine Kw.WC_region [some 15, some 16, some 14, some 17, some 18, some 19, some 4, some 5, some 6] rfl ?_
    refine Kw.WL_v rfl rfl rfl (Kw.R_move rfl) ?_
    refine Kw.WL_call rfl rfl rfl rfl F.cl9 rfl (get_put l okl (by omega) w6 (GG.below HB)) ?_; rintro _ w8 ⟨⟨lv, rfl, O_lv⟩, bw8⟩
    replace O_lv := O_lv.mono HB.size
    replace HB := Kw.Below.then HB (Nat.le_refl _) bw8
    clear bw8
    refine Kw.WL_v rfl rfl rfl (Kw.R_move rfl) ?_
    refine Kw.WL_v rfl rfl rfl (Kw.R_extract (v := lv) rfl rfl) ?_
    refine Kw.WL_v rfl rfl rfl (Kw.R_extract (v := .int .i64 0) rfl rfl) ?_
    refine Kw.WL_v rfl rfl rfl (Kw.R_extract (v := .int .i64 0) rfl rfl) ?_
    refine Kw.WL_v rfl rfl rfl (Kw.R_assign rfl) ?_
    refine Kw.WL_v rfl rfl rfl (Kw.R_assign rfl) ?_
    refine Kw.WL_v rfl rfl rfl (Kw.R_assign rfl) ?_
    refine Kw.WL_nil ?_
    refine hK7 _ _ ?_; clear hK7 K7
    refine Kw.WC_sub (l' := [(0, .slice p l.length c), (3, .string (bA (putL l))), (4, lv), (5, .int .i64 0), (6, .int .i64 0)]) (Kw.Sub.cons rfl (Kw.Sub.cons rfl (Kw.Sub.cons rfl (Kw.Sub.cons rfl (Kw.Sub.cons rfl Kw.Sub.nil))))) ?_
    refine Kw.WC_seq (fun K9 hK9 => ?_)
    refine Kw.WC_seq (fun K10 hK10 => ?_)
    refine Kw.WC_region [some 20, some 21, some 22, some 23, some 24, some 25, some 26, some 27, some 28, some 29, some 30, some 31] rfl ?_
    refine Kw.WL_v rfl rfl rfl (Kw.R_move rfl) ?_
    refine Kw.WL_v rfl rfl rfl (Kw.R_nei (z := false) rfl rfl (by decide)) ?_
    refine Kw.WL_v rfl rfl rfl (Kw.R_move rfl) ?_
    refine Kw.WL_v rfl rfl rfl (Kw.R_move rfl) ?_
    refine Kw.WL_v rfl rfl rfl (Kw.R_nei (z := false) rfl rfl (by decide)) ?_
    refine Kw.WL_v rfl rfl rfl (Kw.R_pickf rfl rfl) ?_
    refine Kw.WL_v rfl rfl rfl (Kw.R_move rfl) ?_
    refine Kw.WL_v rfl rfl rfl (Kw.R_move rfl) ?_
    refine Kw.WL_callc rfl rfl rfl rfl F.cl8 rfl (put_norm _ l okl (by omega) (by omega) w8 (GG.below HB) (Steps.own O_lv rfl)) ?_; intro w11 bw11
    replace HB := Kw.Below.then HB (Nat.le_refl _) bw11
    replace O_lv := O_lv.call bw11
    clear bw11
    refine Kw.WL_v rfl rfl rfl (Kw.R_move rfl) ?_
    refine Kw.WL_v rfl rfl rfl (Kw.R_nes (z := false) rfl rfl (decide_eq_true rfl)) ?_
    refine Kw.WL_v rfl rfl rfl (Kw.R_pickf rfl rfl) ?_
    refine Kw.WL_nil ?_
    refine hK10 _ _ ?_; clear hK10 K10
    refine Kw.WC_sub (l' := [(0, .slice p l.length c), (4, lv), (31, .bool false)]) (Kw.Sub.cons rfl (Kw.Sub.cons rfl (Kw.Sub.cons rfl Kw.Sub.nil))) ?_
    refine Kw.WC_false rfl ?_
    refine Kw.WC_skip ?_
    refine hK9 _ _ ?_; clear hK9 K9
    refine Kw.WC_seq (fun K12 hK12 => ?_)
    refine Kw.WC_region [some 7] rfl ?_
    refine Kw.WL_v rfl rfl rfl (Kw.R_assign rfl) ?_
    refine Kw.WL_nil ?_
    refine hK12 _ _ ?_; clear hK12 K12
    refine Kw.WC_seq (fun K13 hK13 => ?_)
    refine Kw.WC_seq (fun K14 hK14 => ?_)
    refine Kw.WC_region [some 8] rfl ?_
    refine Kw.WL_v rfl rfl rfl (Kw.R_assign rfl) ?_
    refine Kw.WL_nil ?_
    refine hK14 _ _ ?_; clear hK14 K14
    refine Kw.WC_block ?_
    refine Kw.WC_loop (ι := Nat × Nat) (fun (q : Nat × Nat) (ww : World) => match q with | ⟨i, m⟩ => (i ≤ l.length ∧ m = (normL (l.take i)).length) ∧ Kw.Own ww w.heap.size 30 5 lv ((normL l).length) (stpsV (normL l)) ∧ Below w.heap.size w ww) (fun (q : Nat × Nat) => match q with | ⟨i, m⟩ => [(0, .slice p l.length c), (4, lv), (7, .int .i64 (m : Int)), (8, .int .i64 (i : Int))]) (fun (q : Nat × Nat) => match q with | ⟨i, m⟩ => l.length - i) (0, 0) ⟨⟨Nat.zero_le _, rfl⟩, O_lv, HB⟩ (Kw.Sub.cons rfl (Kw.Sub.cons rfl (Kw.Sub.cons rfl (Kw.Sub.cons rfl Kw.Sub.nil)))) ?_
    clear O_lv
    clear HB
    rintro ⟨i, m⟩ w15 ⟨⟨hi, hm⟩, O_lv, HB⟩
    dsimp only at *
    refine Kw.WC_seq (fun K16 hK16 => ?_)
    refine Kw.WC_seq (fun K17 hK17 => ?_)
    refine Kw.WC_region [some 32, some 33, some 34, some 35] rfl ?_
    refine Kw.WL_v rfl rfl rfl (Kw.R_move rfl) ?_
    refine Kw.WL_v rfl rfl rfl (Kw.R_move rfl) ?_
    refine Kw.WL_v rfl rfl rfl (Kw.R_lenl Tryd.underlying22 rfl) ?_
    by_cases c18 : (i : Int) < (l.length : Int)
    ·
      refine Kw.WL_v rfl rfl rfl (Kw.R_lss (z := true) rfl rfl (decide_eq_true c18)) ?_
      have hil : i < l.length := by omega
      obtain ⟨gq, oq, rfl, hgq, hcq⟩ := hv.resolve_left (fun h => by rw [h] at hil; exact absurd hil (Nat.not_lt_zero _))
      obtain ⟨x, hx⟩ : ∃ x, x = l[i]'hil := ⟨_, rfl⟩
      have hcx := hcq i hil; rw [← hx] at hcx
      have hxl : x ∈ l := by rw [hx]; exact List.getElem_mem hil
      have hmt := normL_take hil; rw [← hx] at hmt
      refine Kw.WL_nil ?_
      refine hK17 _ _ ?_; clear hK17 K17
      refine Kw.WC_true rfl ?_
      refine Kw.WC_skip ?_
      refine hK16 _ _ ?_; clear hK16 K16
      refine Kw.WC_seq (fun K19 hK19 => ?_)
      refine Kw.WC_block ?_
      refine Kw.WC_seq (fun K20 hK20 => ?_)
      refine Kw.WC_seq (fun K21 hK21 => ?_)
      refine Kw.WC_region [some 38, some 39, some 40, some 41, some 42, some 43, some 44, some 45, some 46, some 47, some 48, some 49, some 50, some 51] rfl ?_
      refine Kw.WL_v rfl rfl rfl (Kw.R_move rfl) ?_
      refine Kw.WL_v rfl rfl rfl (Kw.R_move rfl) ?_
      refine Kw.WL_v rfl rfl rfl (Kw.R_indexAddrS (i := i) (o' := oq + i * 5) rfl rfl Tryd.underlying22 F.sz30 (by omega) (by omega)) ?_
      refine Kw.WL_v rfl rfl rfl (Kw.R_fieldAddr (o' := oq + i * 5 + 0) (k := 0) rfl Tryd.underlying30 rfl F.sz3 rfl) ?_
      refine Kw.WL_v rfl rfl rfl (Kw.R_loadc (v := .int .i64 x.kind) rfl Tryd.underlying3 rfl ((HB.cell (p := ⟨gq, oq + i * 5 + 0, none⟩) hgq).trans (hcx 0 _ rfl))) ?_
      by_cases c22 : (x.kind : Int) < 1
      ·
        refine Kw.WL_v rfl rfl rfl (Kw.R_lss (z := true) rfl rfl (decide_eq_true c22)) ?_
        have hng : ¬ good x := fun h => by have := h.1; have := h.2; omega
        rw [if_neg hng] at hmt
        refine Kw.WL_v rfl rfl rfl (Kw.R_move rfl) ?_
        refine Kw.WL_off rfl rfl rfl ?_
        refine Kw.WL_off rfl rfl rfl ?_
        refine Kw.WL_off rfl rfl rfl ?_
        refine Kw.WL_off rfl rfl rfl ?_
        refine Kw.WL_off rfl rfl rfl ?_
        refine Kw.WL_off rfl rfl rfl ?_
        refine Kw.WL_v rfl rfl rfl (Kw.R_pickt rfl rfl) ?_
        refine Kw.WL_nil ?_
        refine hK21 _ _ ?_; clear hK21 K21
        refine Kw.WC_sub (l' := [(0, .slice (some ⟨gq, oq, none⟩) l.length c), (4, lv), (7, .int .i64 (m : Int)), (8, .int .i64 (i : Int)), (45, undef), (46, undef), (47, undef), (48, undef), (49, undef), (50, undef), (51, .bool true)]) (Kw.Sub.cons rfl (Kw.Sub.cons rfl (Kw.Sub.cons rfl (Kw.Sub.cons rfl (Kw.Sub.cons rfl (Kw.Sub.cons rfl (Kw.Sub.cons rfl (Kw.Sub.cons rfl (Kw.Sub.cons rfl (Kw.Sub.cons rfl (Kw.Sub.cons rfl Kw.Sub.nil))))))))))) ?_
        refine Kw.WC_true rfl ?_
        refine Kw.WC_exit ?_
        refine Kw.QE_then ?_; clear hK20 K20
        refine Kw.QE_here ?_
        refine hK19 _ _ ?_; clear hK19 K19
        refine Kw.WC_region [some 36, some 37, some 8] rfl ?_
        refine Kw.WL_v rfl rfl rfl (Kw.R_move rfl) ?_
        refine Kw.WL_v rfl rfl rfl (Kw.R_add (c := ((i + 1 : Nat) : Int)) rfl rfl (by rw [Kw.wrap_i64 (by omega)]; omega)) ?_
        refine Kw.WL_v rfl rfl rfl (Kw.R_assign rfl) ?_
        refine Kw.WL_nil ?_
        refine Kw.QN_round ((i + 1, m)) ⟨⟨by (try dsimp only); omega, by (try dsimp only); omega⟩, O_lv, HB⟩ (by dsimp only; omega) (Kw.Sub.cons rfl (Kw.Sub.cons rfl (Kw.Sub.cons rfl (Kw.Sub.cons rfl Kw.Sub.nil))))
      ·
        refine Kw.WL_v rfl rfl rfl (Kw.R_lss (z := false) rfl rfl (decide_eq_false c22)) ?_
        refine Kw.WL_v rfl rfl rfl (Kw.R_move rfl) ?_
        refine Kw.WL_v rfl rfl rfl (Kw.R_move rfl) ?_
        refine Kw.WL_v rfl rfl rfl (Kw.R_move rfl) ?_
        refine Kw.WL_v rfl rfl rfl (Kw.R_indexAddrS (i := i) (o' := oq + i * 5) rfl rfl Tryd.underlying22 F.sz30 (by omega) (by omega)) ?_
        refine Kw.WL_v rfl rfl rfl (Kw.R_fieldAddr (o' := oq + i * 5 + 0) (k := 0) rfl Tryd.underlying30 rfl F.sz3 rfl) ?_
        refine Kw.WL_v rfl rfl rfl (Kw.R_loadc (v := .int .i64 x.kind) rfl Tryd.underlying3 rfl ((HB.cell (p := ⟨gq, oq + i * 5 + 0, none⟩) hgq).trans (hcx 0 _ rfl))) ?_
        by_cases c23 : (13 : Int) < x.kind
        ·
          refine Kw.WL_v rfl rfl rfl (Kw.R_gtr (z := true) rfl rfl (decide_eq_true c23)) ?_
          have hng : ¬ good x := fun h => by have := h.1; have := h.2; omega
          rw [if_neg hng] at hmt
          refine Kw.WL_v rfl rfl rfl (Kw.R_pickf rfl rfl) ?_
          refine Kw.WL_nil ?_
          refine hK21 _ _ ?_; clear hK21 K21
          refine Kw.WC_sub (l' := [(0, .slice (some ⟨gq, oq, none⟩) l.length c), (4, lv), (7, .int .i64 (m : Int)), (8, .int .i64 (i : Int)), (45, .slice (some ⟨gq, oq, none⟩) l.length c), (46, .int .i64 (i : Int)), (47, .pointer (some ⟨gq, oq + i * 5, none⟩)), (48, .pointer (some ⟨gq, oq + i * 5 + 0, none⟩)), (49, .int .i64 x.kind), (50, .bool true), (51, .bool true)]) (Kw.Sub.cons rfl (Kw.Sub.cons rfl (Kw.Sub.cons rfl (Kw.Sub.cons rfl (Kw.Sub.cons rfl (Kw.Sub.cons rfl (Kw.Sub.cons rfl (Kw.Sub.cons rfl (Kw.Sub.cons rfl (Kw.Sub.cons rfl (Kw.Sub.cons rfl Kw.Sub.nil))))))))))) ?_
          refine Kw.WC_true rfl ?_
          refine Kw.WC_exit ?_
          refine Kw.QE_then ?_; clear hK20 K20
          refine Kw.QE_here ?_
          refine hK19 _ _ ?_; clear hK19 K19
          refine Kw.WC_region [some 36, some 37, some 8] rfl ?_
          refine Kw.WL_v rfl rfl rfl (Kw.R_move rfl) ?_
          refine Kw.WL_v rfl rfl rfl (Kw.R_add (c := ((i + 1 : Nat) : Int)) rfl rfl (by rw [Kw.wrap_i64 (by omega)]; omega)) ?_
          refine Kw.WL_v rfl rfl rfl (Kw.R_assign rfl) ?_
          refine Kw.WL_nil ?_
          refine Kw.QN_round ((i + 1, m)) ⟨⟨by (try dsimp only); omega, by (try dsimp only); omega⟩, O_lv, HB⟩ (by dsimp only; omega) (Kw.Sub.cons rfl (Kw.Sub.cons rfl (Kw.Sub.cons rfl (Kw.Sub.cons rfl Kw.Sub.nil))))
        ·
          refine Kw.WL_v rfl rfl rfl (Kw.R_gtr (z := false) rfl rfl (decide_eq_false c23)) ?_
          have hg : good x := ⟨by omega, by omega⟩
          rw [if_pos hg] at hmt
          have hat := normL_at hil (by rw [← hx]; exact hg); rw [← hx, ← hm] at hat
          obtain ⟨hmn, hme⟩ := List.getElem?_eq_some_iff.1 hat
          obtain ⟨gm, capm, curm, rfl, hBm, A_gm, h1m, h2m, h4m⟩ := O_lv.open (by omega)
          have hcm : ∀ (j : Nat) (u : Value), (stpCells (normS x))[j]? = some u → curm[m * 5 + j]? = some u := fun j u hu => by
            have hj : j < 5 := (Array.getElem?_eq_some_iff.1 hu).1
            rw [Kw.Own.cellAt h4m (by omega)]
            exact stpsV_at (normL l) m hmn j u (by rw [hme]; exact hu)
          refine Kw.WL_v rfl rfl rfl (Kw.R_pickf rfl rfl) ?_
          refine Kw.WL_nil ?_
          refine hK21 _ _ ?_; clear hK21 K21
          refine Kw.WC_sub (l' := [(0, .slice (some ⟨gq, oq, none⟩) l.length c), (4, .slice (some ⟨gm, 0, none⟩) ((normL l).length) capm), (7, .int .i64 (m : Int)), (8, .int .i64 (i : Int)), (45, .slice (some ⟨gq, oq, none⟩) l.length c), (46, .int .i64 (i : Int)), (47, .pointer (some ⟨gq, oq + i * 5, none⟩)), (48, .pointer (some ⟨gq, oq + i * 5 + 0, none⟩)), (49, .int .i64 x.kind), (50, .bool false), (51, .bool false)]) (Kw.Sub.cons rfl (Kw.Sub.cons rfl (Kw.Sub.cons rfl (Kw.Sub.cons rfl (Kw.Sub.cons rfl (Kw.Sub.cons rfl (Kw.Sub.cons rfl (Kw.Sub.cons rfl (Kw.Sub.cons rfl (Kw.Sub.cons rfl (Kw.Sub.cons rfl Kw.Sub.nil))))))))))) ?_
          refine Kw.WC_false rfl ?_
          refine Kw.WC_skip ?_
          refine hK20 _ _ ?_; clear hK20 K20
          refine Kw.WC_seq (fun K24 hK24 => ?_)
          refine Kw.WC_seq (fun K25 hK25 => ?_)
          refine Kw.WC_sched (fun ww => Kw.At ww gm curm 30 ∧ True) [(0, true), (1, true), (2, true), (3, true), (4, true), (5, true), (6, true), (7, true), (8, true), (9, true), (10, true), (11, true), (12, false), (13, false), (14, true), (15, true)] [some 52, some 53, some 54, some 55, some 56, some 57, some 58, some 59, some 60, some 61, some 62, some 63, some 64, some 65, some 66, some 67] rfl (by kernel_rfl) rfl (by kernel_rfl) ?_
          obtain ⟨w26, hww26⟩ : ∃ x : World, x = Go.World.drew w15 := ⟨_, rfl⟩
          rw [← hww26]
          replace A_gm : Kw.At w26 gm curm 30 := by rw [hww26]; exact A_gm
          replace O_lv := O_lv.drew; rw [← hww26] at O_lv
          replace HB : Below w.heap.size w w26 := by rw [hww26]; exact HB.drew
          clear hww26
          have hS : Kw.At w26 gm curm 30 ∧ True := ⟨A_gm, trivial⟩
          refine Kw.WX_take rfl rfl rfl rfl (fun _ _ _ h => h) hS (fun _ ⟨A_gm, _⟩ => Kw.R_move rfl) ?_
          refine Kw.WX_take rfl rfl rfl rfl (fun _ _ _ h => h) hS (fun _ ⟨A_gm, _⟩ => Kw.R_move rfl) ?_
          refine Kw.WX_take rfl rfl rfl rfl (fun _ _ _ h => h) hS (fun _ ⟨A_gm, _⟩ => Kw.R_lenl Tryd.underlying22 rfl) ?_
          refine Kw.WX_take rfl rfl rfl rfl (fun _ _ _ h => h) hS (fun _ ⟨A_gm, _⟩ => Kw.R_geq (z := false) rfl rfl (decide_eq_false (by omega))) ?_
          refine Kw.WX_take rfl rfl rfl rfl (fun _ _ _ h => h) hS (fun _ ⟨A_gm, _⟩ => Kw.R_move rfl) ?_
          refine Kw.WX_take rfl rfl rfl rfl (fun _ _ _ h => h) hS (fun _ ⟨A_gm, _⟩ => Kw.R_move rfl) ?_
          refine Kw.WX_take rfl rfl rfl rfl (fun _ _ _ h => h) hS (fun _ ⟨A_gm, _⟩ => Kw.R_move rfl) ?_
          refine Kw.WX_take rfl rfl rfl rfl (fun _ _ _ h => h) hS (fun _ ⟨A_gm, _⟩ => Kw.R_indexAddrS (i := m) (o' := m * 5) rfl rfl Tryd.underlying22 F.sz30 (by omega) (by omega)) ?_
          refine Kw.WX_take rfl rfl rfl rfl (fun _ _ _ h => h) hS (fun _ ⟨A_gm, _⟩ => Kw.R_loadcs (ds := stpCells (normS x)) rfl Tryd.underlying30 rfl (by exact F.sz30) (fun j u hu => by rw [A_gm.cell]; exact hcm j u hu)) ?_
          refine Kw.WX_take rfl rfl rfl rfl (fun _ _ _ h => h) hS (fun _ ⟨A_gm, _⟩ => Kw.R_move rfl) ?_
          refine Kw.WX_take rfl rfl rfl rfl (fun _ _ _ h => h) hS (fun _ ⟨A_gm, _⟩ => Kw.R_move rfl) ?_
          refine Kw.WX_take rfl rfl rfl rfl (fun _ _ _ h => h) hS (fun _ ⟨A_gm, _⟩ => Kw.R_indexAddrS (i := i) (o' := oq + i * 5) rfl rfl Tryd.underlying22 F.sz30 (by omega) (by omega)) ?_
          refine Kw.WX_v rfl rfl rfl rfl (Kw.R_loadcs (ds := stpCells x) rfl Tryd.underlying30 rfl (by exact F.sz30) (fun j u hu => (HB.cell (p := ⟨gq, oq + i * 5 + j, none⟩) hgq).trans (hcx j u hu))) hS ?_
          refine Kw.WX_callc rfl rfl rfl rfl rfl F.cl10 rfl ((by have := same_c (normS x) x (norm_ok (okl x hxl)) (okl x hxl) w26 (GG.below HB); rw [same_norm hg] at this; exact this)) ?_; intro w27 bw27
          clear hS
          replace A_gm := A_gm.call bw27
          replace HB := Kw.Below.then HB (Nat.le_refl _) bw27
          replace O_lv := O_lv.call bw27
          have hS : Kw.At w27 gm curm 30 ∧ True := ⟨A_gm, trivial⟩
          clear bw27
          refine ⟨hS, ?_⟩
          refine Kw.WX_take rfl rfl rfl rfl (fun _ _ _ h => h) hS (fun _ ⟨A_gm, _⟩ => Kw.R_not rfl rfl) ?_
          refine Kw.WX_take rfl rfl rfl rfl (fun _ _ _ h => h) hS (fun _ ⟨A_gm, _⟩ => Kw.R_pickf rfl rfl) ?_
          refine Kw.WX_nil ?_
          clear hS
          refine hK25 _ _ ?_; clear hK25 K25
          refine Kw.WC_sub (l' := [(0, .slice (some ⟨gq, oq, none⟩) l.length c), (4, .slice (some ⟨gm, 0, none⟩) ((normL l).length) capm), (7, .int .i64 (m : Int)), (8, .int .i64 (i : Int)), (45, .slice (some ⟨gq, oq, none⟩) l.length c), (46, .int .i64 (i : Int)), (47, .pointer (some ⟨gq, oq + i * 5, none⟩)), (48, .pointer (some ⟨gq, oq + i * 5 + 0, none⟩)), (49, .int .i64 x.kind), (50, .bool false), (57, .slice (some ⟨gm, 0, none⟩) ((normL l).length) capm), (58, .int .i64 (m : Int)), (59, .pointer (some ⟨gm, m * 5, none⟩)), (60, .agg (stpCells (normS x))), (61, .slice (some ⟨gq, oq, none⟩) l.length c), (62, .int .i64 (i : Int)), (63, .pointer (some ⟨gq, oq + i * 5, none⟩)), (64, .agg (stpCells x)), (65, .bool true), (66, .bool false), (67, .bool false)]) (Kw.Sub.cons rfl (Kw.Sub.cons rfl (Kw.Sub.cons rfl (Kw.Sub.cons rfl (Kw.Sub.cons rfl (Kw.Sub.cons rfl (Kw.Sub.cons rfl (Kw.Sub.cons rfl (Kw.Sub.cons rfl (Kw.Sub.cons rfl (Kw.Sub.cons rfl (Kw.Sub.cons rfl (Kw.Sub.cons rfl (Kw.Sub.cons rfl (Kw.Sub.cons rfl (Kw.Sub.cons rfl (Kw.Sub.cons rfl (Kw.Sub.cons rfl (Kw.Sub.cons rfl (Kw.Sub.cons rfl (Kw.Sub.cons rfl Kw.Sub.nil))))))))))))))))))))) ?_
          refine Kw.WC_false rfl ?_
          refine Kw.WC_skip ?_
          refine hK24 _ _ ?_; clear hK24 K24
          refine Kw.WC_region [some 68, some 69, some 7] rfl ?_
          refine Kw.WL_v rfl rfl rfl (Kw.R_move rfl) ?_
          refine Kw.WL_v rfl rfl rfl (Kw.R_add (c := ((m + 1 : Nat) : Int)) rfl rfl (by rw [Kw.wrap_i64 (by omega)]; omega)) ?_
          refine Kw.WL_v rfl rfl rfl (Kw.R_assign rfl) ?_
          refine Kw.WL_nil ?_
          refine Kw.QN_block ?_
          refine hK19 _ _ ?_; clear hK19 K19
          refine Kw.WC_region [some 36, some 37, some 8] rfl ?_
          refine Kw.WL_v rfl rfl rfl (Kw.R_move rfl) ?_
          refine Kw.WL_v rfl rfl rfl (Kw.R_add (c := ((i + 1 : Nat) : Int)) rfl rfl (by rw [Kw.wrap_i64 (by omega)]; omega)) ?_
          refine Kw.WL_v rfl rfl rfl (Kw.R_assign rfl) ?_
          refine Kw.WL_nil ?_
          refine Kw.QN_round ((i + 1, m + 1)) ⟨⟨by (try dsimp only); omega, by (try dsimp only); omega⟩, O_lv, HB⟩ (by dsimp only; omega) (Kw.Sub.cons rfl (Kw.Sub.cons rfl (Kw.Sub.cons rfl (Kw.Sub.cons rfl Kw.Sub.nil))))
    ·
      refine Kw.WL_v rfl rfl rfl (Kw.R_lss (z := false) rfl rfl (decide_eq_false c18)) ?_
      obtain rfl : i = l.length := by omega
      rw [List.take_length] at hm
      refine Kw.WL_nil ?_
      refine hK17 _ _ ?_; clear hK17 K17
      refine Kw.WC_false rfl ?_
      refine Kw.WC_exit ?_
      refine Kw.QE_then ?_; clear hK16 K16
      refine Kw.QE_then ?_
      refine Kw.QE_here ?_
      refine hK13 _ _ ?_; clear hK13 K13
      refine Kw.WC_sub (l' := [(4, lv), (7, .int .i64 (m : Int))]) (Kw.Sub.cons rfl (Kw.Sub.cons rfl Kw.Sub.nil)) ?_
      refine Kw.WC_seq (fun K28 hK28 => ?_)
      refine Kw.WC_region [some 70, some 71, some 72, some 73, some 74, some 75, some 76, some 2] rfl ?_
      refine Kw.WL_v rfl rfl rfl (Kw.R_move rfl) ?_
      refine Kw.WL_v rfl rfl rfl (Kw.R_move rfl) ?_
      refine Kw.WL_v rfl rfl rfl (Kw.R_leno Tryd.underlying22 rfl O_lv) ?_
      refine Kw.WL_v rfl rfl rfl (Kw.R_eqi (z := true) rfl rfl (decide_eq_true (by omega))) ?_
      refine Kw.WL_v rfl rfl rfl (Kw.R_move rfl) ?_
      refine Kw.WL_callc rfl rfl rfl rfl F.cl7 rfl (written_c w15 (GG.below HB)) ?_; intro w29 bw29
      replace HB := Kw.Below.then HB (Nat.le_refl _) bw29
      replace O_lv := O_lv.call bw29
      clear bw29
      refine Kw.WL_v rfl rfl rfl (Kw.R_pickt rfl rfl) ?_
      refine Kw.WL_v rfl rfl rfl (Kw.R_assign rfl) ?_
      refine Kw.WL_nil ?_
      refine hK28 _ _ ?_; clear hK28 K28
      refine Kw.WC_sub (l' := [(2, .bool true)]) (Kw.Sub.cons rfl Kw.Sub.nil) ?_
      refine Kw.WC_ret ?_
      exact Kw.post_ret1 rfl rfl ⟨rfl, HB⟩
  ·
    refine Kw.WL_nil ?_
    refine hK3 _ _ ?_; clear hK3 K3
    refine Kw.WC_true rfl ?_
    refine Kw.WC_seq (fun K30 hK30 => ?_)
    refine Kw.WC_region [some 11, some 2] rfl ?_
    refine Kw.WL_callc rfl rfl rfl rfl F.cl7 rfl (written_c w4 (GG.below HB)) ?_; intro w31 bw31
    replace HB := Kw.Below.then HB (Nat.le_refl _) bw31
    clear bw31
    refine Kw.WL_v rfl rfl rfl (Kw.R_assign rfl) ?_
    refine Kw.WL_nil ?_
    refine hK30 _ _ ?_; clear hK30 K30
    refine Kw.WC_ret ?_
    refine Kw.QR_then ?_; clear hK2 K2
    exact Kw.post_ret1 rfl rfl ⟨rfl, HB⟩
end Go.Proofs.YtpggmnomcahijaaDoor.Fn
