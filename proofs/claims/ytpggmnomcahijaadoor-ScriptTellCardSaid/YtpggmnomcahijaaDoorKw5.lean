/- Slices that a call makes and appends to, for the calculus of steps. No condition; no program in sight. -/
import Derived.Test.YtpggmnomcahijaaDoorKw4
import Derived.Laws.AppendOwn
namespace Go.Proofs.YtpggmnomcahijaaDoor.Kw
open Go Go.Proofs Go.RowKit
set_option linter.unusedVariables false
set_option linter.unusedSimpArgs false
/-- A slice of the call's own: none, or from a block's first cell on. -/
def Own (w : World) (B e size : Nat) (v : Value) (n : Nat) (xs : List Value) : Prop :=
  xs.length = n * size ∧ ((v = .slice none 0 0 ∧ n = 0) ∨
    ∃ g cap cur, v = .slice (some ⟨g, 0, none⟩) n cap ∧ B ≤ g ∧ At w g cur e ∧ n ≤ cap ∧ cap ≤ maxLen ∧ cur.size = cap * size ∧ cur.toList.take (n * size) = xs)
def ob : Value → Option Nat
  | .slice (some a) _ _ => some a.block
  | _ => none
theorem Own.nil (w : World) (B e size : Nat) : Own w B e size (.slice none 0 0) 0 [] := ⟨by simp, .inl ⟨rfl, rfl⟩⟩
theorem Own.made {w : World} {B e size g n cap : Nat} {cur : Array Value} (hB : B ≤ g) (h : At w g cur e) (hn : n ≤ cap) (hc : cap ≤ maxLen) (hs : cur.size = cap * size) : Own w B e size (.slice (some ⟨g, 0, none⟩) n cap) n (cur.toList.take (n * size)) := by
  refine ⟨?_, .inr ⟨g, cap, cur, rfl, hB, h, hn, hc, hs, rfl⟩⟩
  rw [List.length_take, Array.length_toList, hs]
  exact Nat.min_eq_left (Nat.mul_le_mul_right _ hn)
theorem Own.whole {w : World} {B e size g n : Nat} {cur : Array Value} (hB : B ≤ g) (h : At w g cur e) (hc : n ≤ maxLen) (hs : cur.size = n * size) : Own w B e size (.slice (some ⟨g, 0, none⟩) n n) n cur.toList := by
  have := Own.made (n := n) hB h (Nat.le_refl _) hc hs
  rwa [List.take_of_length_le (by rw [Array.length_toList, hs]; exact Nat.le_refl _)] at this
theorem Own.mono {w : World} {B B' e size n : Nat} {v : Value} {xs : List Value} (h : Own w B e size v n xs) (hB : B' ≤ B) : Own w B' e size v n xs := by
  obtain ⟨h1, h2⟩ := h
  refine ⟨h1, ?_⟩
  rcases h2 with h2 | ⟨g, cap, cur, r, hg, rest⟩
  · exact .inl h2
  · exact .inr ⟨g, cap, cur, r, Nat.le_trans hB hg, rest⟩
/-- The block lies there still. -/
theorem Own.heap {w w' : World} {B e size n : Nat} {v : Value} {xs : List Value} (h : Own w B e size v n xs) (hk : ∀ g, ob v = some g → w'.heap[g]? = w.heap[g]?) : Own w' B e size v n xs := by
  obtain ⟨h1, h2⟩ := h
  refine ⟨h1, ?_⟩
  rcases h2 with h2 | ⟨g, cap, cur, rfl, hg, ha, rest⟩
  · exact .inl h2
  · exact .inr ⟨g, cap, cur, rfl, hg, ha.heap (hk g rfl), rest⟩
theorem Own.lt {w : World} {B e size n : Nat} {v : Value} {xs : List Value} (h : Own w B e size v n xs) {g : Nat} (hg : ob v = some g) : g < w.heap.size := by
  rcases h.2 with ⟨rfl, _⟩ | ⟨g', cap, cur, rfl, _, ha, _⟩
  · cases hg
  · obtain rfl : g' = g := Option.some.inj hg
    exact ha.lt
theorem Own.ge {w : World} {B e size n : Nat} {v : Value} {xs : List Value} (h : Own w B e size v n xs) {g : Nat} (hg : ob v = some g) : B ≤ g := by
  rcases h.2 with ⟨rfl, _⟩ | ⟨g', cap, cur, rfl, hb, ha, _⟩
  · cases hg
  · obtain rfl : g' = g := Option.some.inj hg
    exact hb
theorem Own.call {w w' : World} {B e size n : Nat} {v : Value} {xs : List Value} (h : Own w B e size v n xs) (hb : Below w.heap.size w w') : Own w' B e size v n xs :=
  h.heap fun g hg => hb.block g (h.lt hg)
theorem Own.new {w w' : World} {B e size n : Nat} {v : Value} {xs : List Value} (h : Own w B e size v n xs) {g : Nat} {cs : Array Value} {T : TypeId} (hN : Newb w g cs T w') : Own w' B e size v n xs :=
  h.heap fun k hk => hN.heap k (h.lt hk)
theorem Own.wrote {w w' : World} {B e size n : Nat} {v : Value} {xs : List Value} (h : Own w B e size v n xs) {b : Nat} {cs : Array Value} (hW : Wrote w b cs w') (hne : ob v ≠ some b) : Own w' B e size v n xs :=
  h.heap fun k hk => hW.heap k (fun e => hne (by rw [hk, e]))
theorem Own.drew {w : World} {B e size n : Nat} {v : Value} {xs : List Value} (h : Own w B e size v n xs) : Own w.drew B e size v n xs := h
/-- A tracked block is not the slice's, if it is a new one. -/
theorem Own.ne_new {w w' : World} {B e size n : Nat} {v : Value} {xs : List Value} (h : Own w B e size v n xs) {g : Nat} {cs : Array Value} {T : TypeId} (hN : Newb w g cs T w') : ob v ≠ some g := fun e => by
  have := h.lt e; have := hN.num; omega
/-- A slice as it is read. -/
theorem Own.open {w : World} {B e size n : Nat} {v : Value} {xs : List Value} (h : Own w B e size v n xs) (hn : 0 < n) : ∃ g cap cur, v = .slice (some ⟨g, 0, none⟩) n cap ∧ B ≤ g ∧ At w g cur e ∧ n ≤ cap ∧ cur.size = cap * size ∧ cur.toList.take (n * size) = xs := by
  rcases h.2 with ⟨_, rfl⟩ | ⟨g, cap, cur, h1, h2, h3, h4, _, h5, h6⟩
  · omega
  · exact ⟨g, cap, cur, h1, h2, h3, h4, h5, h6⟩
theorem Own.shape {w : World} {B e size n : Nat} {v : Value} {xs : List Value} (h : Own w B e size v n xs) : ∃ a cap, v = .slice a n cap := by
  rcases h.2 with ⟨rfl, rfl⟩ | ⟨g, cap, cur, rfl, _⟩
  · exact ⟨_, _, rfl⟩
  · exact ⟨_, _, rfl⟩
theorem Own.cellAt {size n : Nat} {xs : List Value} {cur : Array Value} (ht : cur.toList.take (n * size) = xs) {i : Nat} (hi : i < n * size) : cur[i]? = xs[i]? := by
  rw [← ht, List.getElem?_take, if_pos hi, Array.getElem?_toList]

/-- What an append leaves of memory. -/
structure Grew (w : World) (v : Value) (w' : World) (v' : Value) : Prop where
  os : w'.os = w.os
  tape : w'.tape = w.tape
  output : w'.output = w.output
  size : w.heap.size ≤ w'.heap.size
  block : ∀ k, k < w.heap.size → ob v ≠ some k → w'.heap[k]? = w.heap[k]?
  fresh : ob v' = ob v ∨ ∃ g, ob v' = some g ∧ w.heap.size ≤ g
theorem Grew.keep {w w' : World} {v v' : Value} (h : Grew w v w' v') {b : Nat} {cs : Array Value} {T : TypeId} (hb : At w b cs T) (hne : ob v ≠ some b) : At w' b cs T := hb.heap (h.block b hb.lt hne)
theorem Grew.ne {w w' : World} {v v' : Value} (h : Grew w v w' v') {b : Nat} {cs : Array Value} {T : TypeId} (hb : At w b cs T) (hne : ob v ≠ some b) : ob v' ≠ some b := by
  rcases h.fresh with e | ⟨g, e, hg⟩
  · rwa [e]
  · rw [e]; intro e'; have := hb.lt; have := Option.some.inj e'; omega
theorem Grew.keepO {w w' : World} {v v' : Value} (h : Grew w v w' v') {B e size n : Nat} {u : Value} {xs : List Value} (hu : Own w B e size u n xs) (hne : ∀ g, ob u = some g → ob v ≠ some g) : Own w' B e size u n xs :=
  hu.heap fun g hg => h.block g (hu.lt hg) (hne g hg)
theorem Grew.neO {w w' : World} {v v' : Value} (h : Grew w v w' v') {B e size n : Nat} {u : Value} {xs : List Value} (hu : Own w B e size u n xs) (hne : ∀ g, ob u = some g → ob v ≠ some g) : ∀ g, ob u = some g → ob v' ≠ some g := fun k hk => by
  rcases h.fresh with e | ⟨g, e, hg⟩
  · rw [e]; exact hne k hk
  · rw [e]; intro e'; have := hu.lt hk; have := Option.some.inj e'; omega
theorem Grew.below {w w' : World} {v v' : Value} (h : Grew w v w' v') {B : Nat} {w0 : World} (hb : Below B w0 w) (hB : B ≤ w0.heap.size) (hv : ∀ g, ob v = some g → B ≤ g) : Below B w0 w' :=
  hb.trans ⟨h.os, h.tape, h.output, h.size, fun k hk => h.block k (Nat.lt_of_lt_of_le hk (Nat.le_trans hB hb.size)) (fun e => by have := hv k e; omega)⟩

section
variable {P : Program} {l : Env} {w : World} {D : Option Tmp} {T : TypeId} {S : String} {F : Array Edge} {g : Option (Nat × Bool)}
variable {G : List (Option Tmp)} {Q : Exit → Act → World → Prop} {n : Nat}
def bytesIs (P : Program) (t : TypeId) (k : Nat) : Prop := (P.info? t).map (·.bytes) = some k
theorem info_of {t : TypeId} {size bytes : Nat} {z : Value} (hs : sizeIs P t size) (hy : bytesIs P t bytes) (hz : zeroIs P t z) : ∃ i, P.info? t = some i ∧ i.size = size ∧ i.bytes = bytes ∧ i.zero = some z := by
  unfold sizeIs at hs; unfold bytesIs at hy; unfold zeroIs at hz
  cases hq : P.info? t with
  | none => rw [hq] at hs; cases hs
  | some i => rw [hq] at hs hy hz; simp at hs hy hz; exact ⟨i, rfl, hs, hy, hz⟩
theorem ob_of {g n c : Nat} : ob (.slice (some ⟨g, 0, none⟩) n c) = some g := rfl
/-- What is appended: cells that a slice or a text gives in every world with this heap. -/
def News (P : Program) (w : World) (size : Nat) (y : Value) (m : Nat) (news : List Value) : Prop :=
  news.length = m * size ∧ (∀ u ∈ news, u.oneCell' = true) ∧ (∀ w', (Builtin.lenOf y).run P w' = .ok m w') ∧ ∀ w', w'.heap = w.heap → (Builtin.firstCells size m y).run P w' = .ok news.toArray w'
theorem run_append {t u ty e size bytes : Nat} {z : Value} {du : TypeDesc} (ht : P.underlying t = some (.slice e)) (hu : P.underlying u = some du) (hdu : du = .string ∨ ∃ e2, du = .slice e2) (hs : sizeIs P e size) (hby : bytesIs P e bytes) (hz : zeroIs P e z) (hzs : z.cells.size = size)
    {B k m : Nat} {v y : Value} {xs news : List Value} (hown : Own w B e size v k xs) (hy : News P w size y m news)
    (h63 : k + m ≤ maxLen) (hb : (k + m) * bytes ≤ 140737488355328) (hB : B ≤ w.heap.size) :
    ∃ v' w', (Builtin.append_ #[t, u] ty #[v, y]).run P w = .ok v' w' ∧ Own w' B e size v' (k + m) (xs ++ news) ∧ Grew w v w' v' := by
  obtain ⟨i, hi, rfl, rfl, hiz⟩ := info_of hs hby hz
  obtain ⟨hl, h1, hlen, hfc⟩ := hy
  have hxl : (xs ++ news).length = (k + m) * i.size := by rw [List.length_append, hown.1, hl, Nat.add_mul]
  have h63' : ¬ (9223372036854775807 < ((k : Int) + (m : Int))) := by simp only [maxLen] at h63; omega
  -- the new row
  have grown : ∀ old : Nat, old < k + m → Own (w.drew.alloc (.cells (xs.toArray ++ news.toArray ++ Builtin.zeroCells z.cells (grownCap w (k + m) old e - (k + m))) e)) B e i.size (.slice (some ⟨w.heap.size, 0, none⟩) (k + m) (grownCap w (k + m) old e)) (k + m) (xs ++ news) ∧
      Grew w v (w.drew.alloc (.cells (xs.toArray ++ news.toArray ++ Builtin.zeroCells z.cells (grownCap w (k + m) old e - (k + m))) e)) (.slice (some ⟨w.heap.size, 0, none⟩) (k + m) (grownCap w (k + m) old e)) := by
    intro old ho
    have hge := grownCap_ge w (k + m) old e
    have hcm : grownCap w (k + m) old e ≤ maxLen := grownCap_le_maxLen w (k + m) old e h63
    refine ⟨⟨hxl, .inr ⟨w.heap.size, _, _, rfl, hB, At.mk0 (heap_alloc_new w.drew _), hge, hcm, ?_, ?_⟩⟩, ⟨rfl, rfl, rfl, by simp, fun j hj _ => Below.heap_alloc w.drew _ j hj, .inr ⟨_, rfl, Nat.le_refl _⟩⟩⟩
    · simp only [Array.size_append, List.size_toArray, size_zeroCells, hzs, hown.1, hl, ← Nat.add_mul]
      congr 1
      omega
    · simp only [Array.toList_append, List.append_assoc]
      rw [← List.append_assoc, ← hxl]
      exact List.take_left
  have hlenw := hlen w
  rcases hown.2 with ⟨rfl, rfl⟩ | ⟨g, cap, cur, rfl, hbg, hg, hnc, hcm, hcs, htake⟩
  · have hx : xs = [] := List.eq_nil_of_length_eq_zero (by simpa using hown.1)
    subst hx
    by_cases hm : m = 0
    · subst hm
      have hn : news = [] := List.eq_nil_of_length_eq_zero (by simpa using hl)
      subst hn
      refine ⟨.slice none 0 0, w, ?_, Own.nil w B e i.size, ⟨rfl, rfl, rfl, Nat.le_refl _, fun _ _ _ => rfl, .inl rfl⟩⟩
      have hf := hfc w rfl
      rcases hdu with rfl | ⟨e2, rfl⟩ <;> simp [Builtin.append_, run_underlying ht, run_underlying hu, sizeOf, typeInfo, hi, hlenw, hf]
    · have hgr := grown 0 (by omega)
      refine ⟨_, _, ?_, hgr⟩
      have hf := hfc w.drew rfl
      have hfit := growslice_fits (need := m) (old := 0) (bytes := i.bytes) (by omega) (by simpa using hb)
      have h48' : ¬ (281474976710656 < Builtin.nextslicecap m 0 * i.bytes) := by omega
      have h63'' : ¬ (9223372036854775807 < (m : Int)) := by omega
      have h0 : (Builtin.firstCells i.size 0 (.slice none 0 0)).run P w.drew = .ok #[] w.drew := rfl
      rcases hdu with rfl | ⟨e2, rfl⟩ <;> simp [Builtin.append_, run_underlying ht, run_underlying hu, sizeOf, typeInfo, zeroValue, hi, hiz, hlenw, hm, h63'', h48', Question.forced, hf, h0, newRow, grownCap]
  · by_cases hroom : k + m ≤ cap
    · have hfit : 0 + k * i.size + news.length ≤ cur.size := by rw [hl, hcs, Nat.zero_add, ← Nat.add_mul]; exact Nat.mul_le_mul_right _ hroom
      have hst := run_storeRow (P := P) (b := g) (o := k * i.size) news 0 cur w hg (by omega) h1
      simp only [Nat.add_zero] at hst
      have hsz := splice_size cur (k * i.size) news (by omega)
      have hW : Wrote w g (splice cur (k * i.size) news) (w.setRow g (splice cur (k * i.size) news)) := wrote_splice hg (by omega) rfl
      refine ⟨.slice (some ⟨g, 0, none⟩) (k + m) cap, w.setRow g (splice cur (k * i.size) news), ?_, ⟨hxl, .inr ⟨g, cap, _, rfl, hbg, hW.at_ hg, hroom, hcm, by rw [hsz, hcs], ?_⟩⟩,
        ⟨rfl, rfl, rfl, by simp, fun j _ hk => hW.heap j (fun e => hk (by rw [e]; rfl)), .inl rfl⟩⟩
      · have hf := hfc w rfl
        have hadd : (⟨g, 0, none⟩ : Addr).add (k * i.size) = ⟨g, k * i.size, none⟩ := by unfold Addr.add; split <;> simp_all
        rcases hdu with rfl | ⟨e2, rfl⟩ <;> simp [Builtin.append_, run_underlying ht, run_underlying hu, sizeOf, typeInfo, hi, hlenw, hroom, hf, hadd, hst]
      · unfold splice
        rw [List.append_assoc, htake, ← List.append_assoc, ← hxl]
        exact List.take_left
    · have hgr := grown cap (by omega)
      refine ⟨_, _, ?_, hgr⟩
      have hf := hfc w.drew rfl
      have hfit := growslice_fits (need := k + m) (old := cap) (bytes := i.bytes) (by omega) hb
      have h48' : ¬ (281474976710656 < Builtin.nextslicecap (k + m) cap * i.bytes) := by omega
      have hold : (Builtin.firstCells i.size k (.slice (some ⟨g, 0, none⟩) k cap)).run P w.drew = .ok xs.toArray w.drew := by
        have h3 := run_loadCells_list (P := P) w.drew ⟨g, 0, none⟩ xs (fun j u hj => by
          have hadd : (⟨g, 0, none⟩ : Addr).add j = ⟨g, j, none⟩ := by unfold Addr.add; split <;> simp_all
          have hjl : j < k * i.size := by
            rcases Nat.lt_or_ge j (k * i.size) with h | h
            · exact h
            · rw [List.getElem?_eq_none (by rw [hown.1]; exact h)] at hj; cases hj
          rw [hadd]
          show w.cell? ⟨g, j, none⟩ = _
          rw [hg.cell, Own.cellAt htake hjl, hj])
        rw [hown.1] at h3
        exact h3
      rcases hdu with rfl | ⟨e2, rfl⟩ <;> simp [Builtin.append_, run_underlying ht, run_underlying hu, sizeOf, typeInfo, zeroValue, hi, hiz, hlenw, hroom, h63', h48', Question.forced, hf, hold, newRow, grownCap] <;>
        (congr 2; apply Array.ext'; simp [List.append_assoc])
theorem News.row {size m gb o c : Nat} {cs : Array Value} {U : TypeId} {news : List Value} (hb : At w gb cs U) (hn : (cs.toList.drop o).take (m * size) = news) (hl : news.length = m * size) (h1 : ∀ u ∈ news, u.oneCell' = true) :
    News P w size (.slice (some ⟨gb, o, none⟩) m c) m news := by
  refine ⟨hl, h1, fun w' => rfl, fun w' hw => ?_⟩
  have h3 := run_loadCells_list (P := P) w' ⟨gb, o, none⟩ news (fun j u hj => by
    have hadd : (⟨gb, o, none⟩ : Addr).add j = ⟨gb, o + j, none⟩ := by unfold Addr.add; split <;> simp_all
    have hjl : j < m * size := by
      rcases Nat.lt_or_ge j (m * size) with h | h
      · exact h
      · rw [List.getElem?_eq_none (by rw [hl]; exact h)] at hj; cases hj
    rw [hadd, (hb.heap (by rw [hw])).cell]
    rw [← hn, List.getElem?_take, if_pos hjl, List.getElem?_drop, Array.getElem?_toList] at hj
    exact hj)
  rw [hl] at h3
  exact h3
theorem News.own {B e size m : Nat} {v : Value} {news : List Value} (h : Own w B e size v m news) (h1 : ∀ u ∈ news, u.oneCell' = true) : News P w size v m news := by
  rcases h.2 with ⟨rfl, rfl⟩ | ⟨g, cap, cur, rfl, _, ha, _, _, _, ht⟩
  · have : news = [] := List.eq_nil_of_length_eq_zero (by simpa using h.1)
    subst this
    exact ⟨by simp, h1, fun _ => rfl, fun _ _ => rfl⟩
  · exact News.row ha (by simpa using ht) h.1 h1
theorem News.nil {size : Nat} : News P w size (.slice none 0 0) 0 [] := ⟨by simp, by simp, fun _ => rfl, fun _ _ => rfl⟩
theorem News.str {s : ByteArray} : News P w 1 (.string s) s.size (s.data.toList.map fun b => .int .u8 ((b.toNat : Nat) : Int)) := by
  refine ⟨by simp, fun u hu => ?_, fun _ => rfl, fun w' _ => ?_⟩
  · obtain ⟨b, _, rfl⟩ := List.mem_map.1 hu; rfl
  · have : s.extract 0 s.size = s := by simp
    simp [Builtin.firstCells, this]
    apply Array.toList_inj.1
    simp
theorem WL_append {t u ty e size bytes : Nat} {z : Value} {du : TypeDesc} {x y : Operand} {d : Nat} {rest : List Oper} {B k m : Nat} {v yv : Value} {xs news : List Value} (hw : on G l g = true) (hn : Nat.blt d n = true)
    (hx : ev l x = some v) (hyv : ev l y = some yv) (ht : P.underlying t = some (.slice e)) (hu : P.underlying u = some du) (hdu : du = .string ∨ ∃ e2, du = .slice e2) (hs : sizeIs P e size) (hby : bytesIs P e bytes) (hz : zeroIs P e z) (hzs : z.cells.size = size)
    (hown : Own w B e size v k xs) (hy : News P w size yv m news) (h63 : k + m ≤ maxLen) (hb : (k + m) * bytes ≤ 140737488355328) (hB : B ≤ w.heap.size)
    (h : ∀ v' w', Own w' B e size v' (k + m) (xs ++ news) → Grew w v w' v' → WL P G Q rest ((d, v') :: l) n w') :
    WL P G Q (⟨some d, .call ⟨.builtin .append, #[x, y], #[t, u]⟩, ty, S, F, g⟩ :: rest) l n w := by
  obtain ⟨v', w', hr, ho, hg⟩ := run_append (P := P) (ty := ty) ht hu hdu hs hby hz hzs hown hy h63 hb hB
  refine WL_v hw rfl hn (v := v') (w' := w') (fun ρ hf => ?_) (h v' w' ho hg)
  unfold execOp
  simp [resolve, invoke, builtin, hf x _ hx, hf y _ hyv, hr, Result.andThen]
theorem WL_sbytes {src dst e : Nat} {x : Operand} {d : Nat} {rest : List Oper} {s : ByteArray} (hw : on G l g = true) (hn : Nat.blt d n = true) (hs : P.underlying src = some .string) (hd : P.underlying dst = some (.slice e)) (he : P.underlying e = some (.int .u8))
    (hx : ev l x = some (.string s)) (hle : s.size ≤ maxLen)
    (h : ∀ b cap w', (∀ k, k < w.heap.size → w'.heap[k]? = w.heap[k]?) → Below w.heap.size w w' → w.heap.size ≤ b → Own w' w.heap.size e 1 (.slice (some ⟨b, 0, none⟩) s.size cap) s.size (s.data.toList.map fun b => .int .u8 ((b.toNat : Nat) : Int)) →
      WL P G Q rest ((d, .slice (some ⟨b, 0, none⟩) s.size cap) :: l) n w') :
    WL P G Q (⟨some d, .convert src dst x, T, S, F, g⟩ :: rest) l n w := by
  obtain ⟨cap, hcap⟩ : ∃ cap, cap = s.size + w.tape w.drawn (.appendCap s.size 0 e) % (2 ^ 63 - s.size) := ⟨_, rfl⟩
  have hc1 : s.size ≤ cap := by omega
  have hc2 : cap ≤ maxLen := by
    have hm : w.tape w.drawn (.appendCap s.size 0 e) % (2 ^ 63 - s.size) < 2 ^ 63 - s.size := Nat.mod_lt _ (by simp only [maxLen] at hle; omega)
    simp only [maxLen]; simp only [maxLen] at hle; omega
  obtain ⟨cur, hcur⟩ : ∃ cur : Array Value, cur = (s.data.map fun b => Value.int .u8 ((b.toNat : Nat) : Int)) ++ Array.replicate (cap - s.size) (Value.int .u8 0) := ⟨_, rfl⟩
  have hsz : cur.size = cap := by rw [hcur]; simp; omega
  obtain ⟨w', hw'⟩ : ∃ w' : World, w' = (w.drew.alloc (.cells cur e)).freeze ⟨w.heap.size, cap, none⟩ 1 := ⟨_, rfl⟩
  have hfz : w'.heap = (w.drew.alloc (.cells cur e)).heap.modify w.heap.size fun o => match o with
      | .cells c el (lo, hi) => .cells c el (if lo == hi then (cap, cap + 1) else (min lo cap, max hi (cap + 1)))
      | o => o := by rw [hw']; rfl
  have hat : At w' w.heap.size cur e := by
    refine ⟨(cap, cap + 1), ?_, fun i hi h => by rw [hsz] at hi; omega⟩
    rw [hfz, Array.getElem?_modify, if_pos rfl]
    have : (w.drew.alloc (.cells cur e)).heap[w.heap.size]? = some (.cells cur e) := heap_alloc_new w.drew _
    rw [this]; rfl
  have hold : ∀ k, k < w.heap.size → w'.heap[k]? = w.heap[k]? := fun k hk => by
    rw [hfz, Array.getElem?_modify, if_neg (by omega)]
    exact Below.heap_alloc w.drew _ k hk
  have hsize : w'.heap.size = w.heap.size + 1 := by rw [hfz]; simp
  have hown : Own w' w.heap.size e 1 (.slice (some ⟨w.heap.size, 0, none⟩) s.size cap) s.size (s.data.toList.map fun b => .int .u8 ((b.toNat : Nat) : Int)) := by
    have := Own.made (B := w.heap.size) (n := s.size) (size := 1) (Nat.le_refl _) hat hc1 hc2 (by rw [hsz]; omega)
    rw [hcur] at this
    rw [Array.toList_append, List.take_left' (by simp)] at this
    simpa using this
  refine WL_v hw rfl hn (v := .slice (some ⟨w.heap.size, 0, none⟩) s.size cap) (w' := w') (fun ρ hf => ?_) (h _ cap w' hold ⟨by rw [hw']; rfl, by rw [hw']; rfl, by rw [hw']; rfl, by omega, hold⟩ (Nat.le_refl _) hown)
  show (do pure (Next.value (← convert src dst (ρ x))) : Sem Next).run P w = _
  rw [hf x _ hx]
  refine run_value ?_
  have hfo : (Question.appendCap s.size 0 e).forced = false := rfl
  have hshape : (w.drew.alloc (.cells cur e)).shape? w.heap.size = some (e, cap) := by
    unfold World.shape?
    have : (w.drew.alloc (.cells cur e)).heap[w.heap.size]? = some (.cells cur e) := heap_alloc_new w.drew _
    rw [this]; simp [hsz]
  have hcut : (Question.appendCap s.size 0 e).cut (w.tape w.drawn (.appendCap s.size 0 e)) = cap := by rw [hcap]; rfl
  simp [convert, run_underlying hs, run_underlying hd, run_underlying he, Conv.stringToBytes, newRow, markStringish, hfo, hcut, ← hcur, hw']
  rw [hshape]
  rfl
theorem R_leno {x : Operand} {t ty e : Nat} {B size k e2 : Nat} {v : Value} {xs : List Value} (hu : P.underlying t = some (.slice e)) (hx : ev l x = some v) (ho : Own w B e2 size v k xs) : Runs P l ⟨D, .call ⟨.builtin .len, #[x], #[t]⟩, ty, S, F, g⟩ w (.int .i64 (k : Int)) w := by
  obtain ⟨a, cap, rfl⟩ := ho.shape
  exact R_lenl hu hx
end
end Go.Proofs.YtpggmnomcahijaaDoor.Kw
