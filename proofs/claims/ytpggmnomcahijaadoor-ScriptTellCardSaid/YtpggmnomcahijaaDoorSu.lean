/- Words back into bytes. -/
import Derived.Test.YtpggmnomcahijaaDoorSl
import Derived.Lib.BufferRead
namespace Go.Proofs.YtpggmnomcahijaaDoor.Fn
open Go Go.Proofs Go.RowKit
set_option linter.unusedVariables false
set_option linter.unusedSimpArgs false
theorem R_convown {P : Program} {l : Kw.Env} {w : World} {D : Option Tmp} {T : TypeId} {S : String} {F : Array Edge} {g : Option (Nat × Bool)} {src dst e : TypeId} {x : Operand} {B n : Nat} {v : Value} {bs : List UInt8} (hs : P.underlying src = some (.slice e)) (he : P.underlying e = some (.int .u8)) (hd : P.underlying dst = some .string)
    (hx : Kw.ev l x = some v) (ho : Kw.Own w B e 1 v n (byV bs)) (hn : bs.length = n) : Kw.Runs P l ⟨D, .convert src dst x, T, S, F, g⟩ w (.string (bA bs)) w := by
  rcases ho.2 with ⟨rfl, hz⟩ | ⟨gb, cap, cur, rfl, _, hA, h1, h2, hz, h3⟩
  · have : bs = [] := List.eq_nil_of_length_eq_zero (by omega)
    subst this
    intro ρ h
    show (do pure (Next.value (← convert src dst (ρ x))) : Sem Next).run P w = _
    rw [h x _ hx]
    refine Kw.run_value ?_
    exact Lib.run_convert_nil_bytes w src dst e 0 hs he hd
  · exact Kw.R_convbs (bs := bs) (r := bA bs) hs he hd hx hA hn (fun j hj => by
      have e : cur[0 + j]? = (byV bs)[j]? := by rw [Nat.zero_add]; exact Kw.Own.cellAt h3 (by omega)
      rw [e]; simp only [byV, List.getElem?_map, List.getElem?_eq_getElem hj]; rfl) rfl
theorem valI_rng : ∀ n, n < 256 → -1 ≤ valI (UInt8.ofNat n) ∧ valI (UInt8.ofNat n) ≤ 15 := by decide +kernel
theorem valI_range (y : UInt8) : -1 ≤ valI y ∧ valI y ≤ 15 := by
  have := valI_rng y.toNat (UInt8.toNat_lt y)
  rwa [UInt8.ofNat_toNat] at this
theorem and15n : ∀ i, i < 17 → Go.bits .and .i64 ((i : Nat) - 1 : Int) 15 = ((i : Nat) - 1 : Int) % 16 := by decide +kernel
theorem and15i (y : UInt8) : Go.bits .and .i64 (valI y) 15 = valI y % 16 := by
  have h := valI_range y
  have := and15n (valI y + 1).toNat (by omega)
  rwa [show (((valI y + 1).toNat : Nat) : Int) - 1 = valI y by omega] at this
theorem or16n : ∀ i, i < 17 → ∀ j, j < 16 → Go.bits .or .i64 (((i : Nat) - 1 : Int) * 16) ((j : Nat) : Int) = ((i : Nat) - 1 : Int) * 16 + ((j : Nat) : Int) := by decide +kernel
theorem or16 (y z : UInt8) : Go.bits .or .i64 (valI y * 16) (valI z % 16) = valI y * 16 + valI z % 16 := by
  have h := valI_range y
  have := or16n (valI y + 1).toNat (by omega) (valI z % 16).toNat (by omega)
  rwa [show (((valI y + 1).toNat : Nat) : Int) - 1 = valI y by omega, show (((valI z % 16).toNat : Nat) : Int) = valI z % 16 by omega] at this
theorem pair_val (y z : UInt8) : (valI y * 16 + valI z % 16) % 256 = (((pairV y z).toNat : Nat) : Int) := by
  unfold pairV
  rw [UInt8.toNat_ofNat']
  omega
theorem back8 (y : UInt8) : (((y.toNat : Nat) : Int)).toNat.toUInt8 = y := by simp
theorem unhexL_len : ∀ l : List UInt8, (unhexL l).length = l.length / 2
  | [] => rfl
  | [x] => by simp [unhexL]
  | a :: b :: r => by
    rw [unhexL, List.length_cons, unhexL_len r, List.length_cons, List.length_cons]; omega
theorem unhexL_get : ∀ (l : List UInt8) (j : Nat) (h : 2 * j + 1 < l.length), (unhexL l)[j]? = some (pairV (l[2 * j]'(by omega)) (l[2 * j + 1]'h))
  | a :: b :: r, 0, h => rfl
  | a :: b :: r, j + 1, h => by
    have := unhexL_get r j (by simp only [List.length_cons] at h; omega)
    rw [unhexL, List.getElem?_cons_succ, this]
    rfl
theorem unhex_snoc (s : List UInt8) (j : Nat) (h1 : 2 * j + 1 < s.length) (h2 : 2 * j + 2 < s.length) : (unhexL s.tail).take (j + 1) = (unhexL s.tail).take j ++ [pairV (s[2 * j + 1]'h1) (s[2 * j + 2]'h2)] := by
  cases s with
  | nil => simp at h1
  | cons x l =>
    simp only [List.length_cons] at h1 h2
    have := unhexL_get l j (by omega)
    obtain ⟨hl, he⟩ := List.getElem?_eq_some_iff.1 this
    rw [List.tail_cons, take_snocL hl, he]; rfl

set_option maxRecDepth 100000 in
set_option maxHeartbeats 4000000 in
theorem unhex_c (s : ByteArray) (hs : s.size ≤ 1000000) (w : World) : Calls Tryd.prog 28 #[.string s] w (Kw.Back fun v w' => (∃ z, v = .tuple #[.string (bA (unhexL s.data.toList.tail)), .bool z]) ∧ Below w.heap.size w w') := by
  have HB : Below w.heap.size w w := Below.refl _ _
  refine Kw.enter Tryd.func28 rfl Tryd.ntmps28 rfl rfl ?_
  refine Kw.WC_seq (fun K1 hK1 => ?_)
  refine Kw.WC_region [some 2, some 3] rfl ?_
  refine Kw.WL_v rfl rfl rfl (Kw.R_assign rfl) ?_
  refine Kw.WL_v rfl rfl rfl (Kw.R_assign rfl) ?_
  refine Kw.WL_nil ?_
  refine hK1 _ _ ?_; clear hK1 K1
  refine Kw.WC_seq (fun K2 hK2 => ?_)
  refine Kw.WC_region [some 4] rfl ?_
  refine Kw.WL_v rfl rfl rfl (Kw.R_assign rfl) ?_
  refine Kw.WL_nil ?_
  refine hK2 _ _ ?_; clear hK2 K2
  refine Kw.WC_seq (fun K3 hK3 => ?_)
  refine Kw.WC_seq (fun K4 hK4 => ?_)
  refine Kw.WC_region [some 5] rfl ?_
  refine Kw.WL_v rfl rfl rfl (Kw.R_assign rfl) ?_
  refine Kw.WL_nil ?_
  refine hK4 _ _ ?_; clear hK4 K4
  refine Kw.WC_block ?_
  refine Kw.WC_loop (ι := Nat × Value) (fun (q : Nat × Value) (ww : World) => match q with | ⟨j, v⟩ => (j ≤ s.size) ∧ Kw.Own ww w.heap.size 5 1 v (((unhexL s.data.toList.tail).take j).length) (byV ((unhexL s.data.toList.tail).take j)) ∧ Below w.heap.size w ww) (fun (q : Nat × Value) => match q with | ⟨j, v⟩ => [(0, .string s), (4, v), (5, .int .i64 ((2 * j + 1 : Nat) : Int))]) (fun (q : Nat × Value) => match q with | ⟨j, v⟩ => s.size - j) (0, .slice none 0 0) ⟨Nat.zero_le _, Kw.Own.nil _ _ _ _, HB⟩ (Kw.Sub.cons rfl (Kw.Sub.cons rfl (Kw.Sub.cons rfl Kw.Sub.nil))) ?_
  clear HB
  rintro ⟨j, v⟩ w5 ⟨hj, O_v, HB⟩
  dsimp only at *
  refine Kw.WC_seq (fun K6 hK6 => ?_)
  refine Kw.WC_seq (fun K7 hK7 => ?_)
  refine Kw.WC_region [some 7, some 8, some 9, some 10, some 11] rfl ?_
  refine Kw.WL_v rfl rfl rfl (Kw.R_move rfl) ?_
  refine Kw.WL_v rfl rfl rfl (Kw.R_add (c := ((2 * j + 2 : Nat) : Int)) rfl rfl (by rw [Kw.wrap_i64 (by omega)]; omega)) ?_
  refine Kw.WL_v rfl rfl rfl (Kw.R_move rfl) ?_
  refine Kw.WL_v rfl rfl rfl (Kw.R_lens Tryd.underlying9 rfl) ?_
  by_cases c8 : ((2 * j + 2 : Nat) : Int) < (s.size : Int)
  ·
    refine Kw.WL_v rfl rfl rfl (Kw.R_lss (z := true) rfl rfl (decide_eq_true c8)) ?_
    have h2 : 2 * j + 2 < s.data.toList.length := by rw [size_list]; omega
    have h1 : 2 * j + 1 < s.data.toList.length := by omega
    obtain ⟨y, hy⟩ : ∃ y, y = s.data.toList[2 * j + 1]'h1 := ⟨_, rfl⟩
    obtain ⟨z, hz⟩ : ∃ z, z = s.data.toList[2 * j + 2]'h2 := ⟨_, rfl⟩
    have hy8 := UInt8.toNat_lt y
    have hz8 := UInt8.toNat_lt z
    refine Kw.WL_nil ?_
    refine hK7 _ _ ?_; clear hK7 K7
    refine Kw.WC_true rfl ?_
    refine Kw.WC_skip ?_
    refine hK6 _ _ ?_; clear hK6 K6
    refine Kw.WC_seq (fun K9 hK9 => ?_)
    refine Kw.WC_block ?_
    refine Kw.WC_sched (fun ww => True ∧ True) [(0, true), (1, true), (2, true), (3, true), (6, true), (7, true), (8, true), (9, true), (4, false), (5, true), (10, false), (11, true), (12, true), (13, true), (14, false), (15, false), (16, true)] [some 14, some 15, some 16, some 17, some 18, some 19, some 20, some 21, some 22, some 23, some 24, some 25, some 26, some 27, some 28, some 29, some 4] rfl (by kernel_rfl) rfl (by kernel_rfl) ?_
    obtain ⟨w10, hww10⟩ : ∃ x : World, x = Go.World.drew w5 := ⟨_, rfl⟩
    rw [← hww10]
    replace O_v := O_v.drew; rw [← hww10] at O_v
    replace HB : Below w.heap.size w w10 := by rw [hww10]; exact HB.drew
    clear hww10
    have hS : True ∧ True := ⟨trivial, trivial⟩
    refine Kw.WX_take rfl rfl rfl rfl (fun _ _ _ h => h) hS (fun _ ⟨_, _⟩ => Kw.R_move rfl) ?_
    refine Kw.WX_take rfl rfl rfl rfl (fun _ _ _ h => h) hS (fun _ ⟨_, _⟩ => Kw.R_move rfl) ?_
    refine Kw.WX_take rfl rfl rfl rfl (fun _ _ _ h => h) hS (fun _ ⟨_, _⟩ => Kw.R_move rfl) ?_
    refine Kw.WX_take rfl rfl rfl rfl (fun _ _ _ h => h) hS (fun _ ⟨_, _⟩ => Kw.R_indexb (i := (2 * j + 1 : Nat)) (c := ((y.toNat : Nat) : Int)) Tryd.underlying9 rfl rfl (by rw [← size_list]; exact h1) (by rw [byt_list s (2 * j + 1) h1, ← hy])) ?_
    refine Kw.WX_take rfl rfl rfl rfl (fun _ _ _ h => h) hS (fun _ ⟨_, _⟩ => Kw.R_move rfl) ?_
    refine Kw.WX_take rfl rfl rfl rfl (fun _ _ _ h => h) hS (fun _ ⟨_, _⟩ => Kw.R_move rfl) ?_
    refine Kw.WX_take rfl rfl rfl rfl (fun _ _ _ h => h) hS (fun _ ⟨_, _⟩ => Kw.R_add (c := ((2 * j + 2 : Nat) : Int)) rfl rfl (by rw [Kw.wrap_i64 (by omega)]; omega)) ?_
    refine Kw.WX_take rfl rfl rfl rfl (fun _ _ _ h => h) hS (fun _ ⟨_, _⟩ => Kw.R_indexb (i := (2 * j + 2 : Nat)) (c := ((z.toNat : Nat) : Int)) Tryd.underlying9 rfl rfl (by rw [← size_list]; exact h2) (by rw [byt_list s (2 * j + 2) h2, ← hz])) ?_
    refine Kw.WX_callc rfl rfl rfl rfl rfl F.cl44 rfl ((by have := index_c ((y.toNat : Nat) : Int) w10; rw [back8] at this; exact this)) ?_; intro w11 bw11
    rw [bw11]; clear bw11
    refine ⟨hS, ?_⟩
    refine Kw.WX_take rfl rfl rfl rfl (fun _ _ _ h => h) hS (fun _ ⟨_, _⟩ => Kw.R_shl (c := (valI y * 16)) rfl rfl (by omega) (by have := valI_range y; show IntKind.i64.wrap (valI y * 16) = _; rw [Kw.wrap_i64 (by omega)])) ?_
    refine Kw.WX_callc rfl rfl rfl rfl rfl F.cl44 rfl ((by have := index_c ((z.toNat : Nat) : Int) w10; rw [back8] at this; exact this)) ?_; intro w12 bw12
    rw [bw12]; clear bw12
    refine ⟨hS, ?_⟩
    refine Kw.WX_take rfl rfl rfl rfl (fun _ _ _ h => h) hS (fun _ ⟨_, _⟩ => Kw.R_bits (c := (valI z % 16)) rfl rfl rfl (and15i z)) ?_
    refine Kw.WX_take rfl rfl rfl rfl (fun _ _ _ h => h) hS (fun _ ⟨_, _⟩ => Kw.R_bits (c := (valI y * 16 + valI z % 16)) rfl rfl rfl (or16 y z)) ?_
    refine Kw.WX_take rfl rfl rfl rfl (fun _ _ _ h => h) hS (fun _ ⟨_, _⟩ => Kw.R_conv (c := (((pairV y z).toNat : Nat) : Int)) Tryd.underlying3 Tryd.underlying5 rfl (by rw [Kw.wrap_u8]; exact pair_val y z)) ?_
    obtain ⟨gp, w13, N_gp⟩ : ∃ b_ w2_, Kw.Newb w10 b_ #[.int .u8 (((pairV y z).toNat : Nat) : Int)] 5 w2_ := ⟨_, _, rfl, rfl⟩
    have R_gp := fun (l : Kw.Env) (h : Kw.evsP l [(0, .tmp 27)] = some [(0, .int .u8 (((pairV y z).toNat : Nat) : Int))]) => Kw.R_buildSlice (P := Tryd.prog) (l := l) (D := some 28) (T := 42) (S := "script.go:61") (F := #[⟨13, .data⟩]) (g := none) (t := 42) (len := 1) h (fun w => by kernel_rfl) N_gp
    have A_gp : Kw.At w13 gp #[.int .u8 (((pairV y z).toNat : Nat) : Int)] 5 := N_gp.at_
    have D_v_gp := O_v.ne_new N_gp; replace O_v := O_v.new N_gp
    have G_gp := N_gp.ge HB (Nat.le_refl _); replace HB := N_gp.below HB (Nat.le_refl _); clear N_gp
    clear hS; have hS : True ∧ True := ⟨trivial, trivial⟩
    refine Kw.WX_v rfl rfl rfl rfl (R_gp _ rfl) hS ?_; clear R_gp
    refine Kw.WX_append rfl rfl rfl rfl rfl Tryd.underlying42 Tryd.underlying42 (.inr ⟨_, rfl⟩) F.sz5 F.by5 F.ze5 rfl O_v (Kw.News.row (news := [.int .u8 (((pairV y z).toNat : Nat) : Int)]) A_gp rfl rfl (by simp [Value.oneCell'])) (by unfold maxLen; rw [List.length_take]; omega) (by rw [List.length_take]; omega) HB.size ?_; intro v29 w14 O_v29 R_v29
    have D_v29_gp := R_v29.ne A_gp D_v_gp
    replace A_gp := R_v29.keep A_gp D_v_gp
    replace HB := R_v29.below HB (Nat.le_refl _) (fun g hg => O_v.ge hg); clear R_v29
    replace O_v29 : Kw.Own w14 w.heap.size 5 1 v29 (((unhexL s.data.toList.tail).take (j + 1)).length) (byV ((unhexL s.data.toList.tail).take (j + 1))) := by rw [unhex_snoc _ j h1 h2, ← hy, ← hz, List.length_append, byV_app]; exact O_v29
    clear O_v
    clear A_gp
    clear hS; have hS : True ∧ True := ⟨trivial, trivial⟩
    refine ⟨hS, ?_⟩
    refine Kw.WX_take rfl rfl rfl rfl (fun _ _ _ h => h) hS (fun _ ⟨_, _⟩ => Kw.R_assign rfl) ?_
    refine Kw.WX_nil ?_
    clear hS
    refine Kw.QN_block ?_
    refine hK9 _ _ ?_; clear hK9 K9
    refine Kw.WC_sub (l' := [(0, .string s), (4, v29), (5, .int .i64 ((2 * j + 1 : Nat) : Int))]) (Kw.Sub.cons rfl (Kw.Sub.cons rfl (Kw.Sub.cons rfl Kw.Sub.nil))) ?_
    refine Kw.WC_region [some 12, some 13, some 5] rfl ?_
    refine Kw.WL_v rfl rfl rfl (Kw.R_move rfl) ?_
    refine Kw.WL_v rfl rfl rfl (Kw.R_add (c := ((2 * (j + 1) + 1 : Nat) : Int)) rfl rfl (by rw [Kw.wrap_i64 (by omega)]; omega)) ?_
    refine Kw.WL_v rfl rfl rfl (Kw.R_assign rfl) ?_
    refine Kw.WL_nil ?_
    refine Kw.QN_round ((j + 1, v29)) ⟨by (try dsimp only); omega, O_v29, HB⟩ (by dsimp only; omega) (Kw.Sub.cons rfl (Kw.Sub.cons rfl (Kw.Sub.cons rfl Kw.Sub.nil)))
  ·
    refine Kw.WL_v rfl rfl rfl (Kw.R_lss (z := false) rfl rfl (decide_eq_false c8)) ?_
    rw [List.take_of_length_le (by rw [unhexL_len, List.length_tail, size_list]; omega)] at O_v
    refine Kw.WL_nil ?_
    refine hK7 _ _ ?_; clear hK7 K7
    refine Kw.WC_false rfl ?_
    refine Kw.WC_exit ?_
    refine Kw.QE_then ?_; clear hK6 K6
    refine Kw.QE_then ?_
    refine Kw.QE_here ?_
    refine hK3 _ _ ?_; clear hK3 K3
    refine Kw.WC_sub (l' := [(0, .string s), (4, v)]) (Kw.Sub.cons rfl (Kw.Sub.cons rfl Kw.Sub.nil)) ?_
    refine Kw.WC_seq (fun K15 hK15 => ?_)
    refine Kw.WC_region [some 30, some 31, some 6] rfl ?_
    refine Kw.WL_v rfl rfl rfl (Kw.R_move rfl) ?_
    refine Kw.WL_v rfl rfl rfl (R_convown (bs := (unhexL s.data.toList.tail)) Tryd.underlying42 Tryd.underlying5 Tryd.underlying9 rfl O_v rfl) ?_
    refine Kw.WL_v rfl rfl rfl (Kw.R_assign rfl) ?_
    refine Kw.WL_nil ?_
    refine hK15 _ _ ?_; clear hK15 K15
    refine Kw.WC_seq (fun K16 hK16 => ?_)
    refine Kw.WC_region [some 32, some 33, some 34, some 35, some 36, some 2, some 3] rfl ?_
    refine Kw.WL_v rfl rfl rfl (Kw.R_move rfl) ?_
    refine Kw.WL_v rfl rfl rfl (Kw.R_move rfl) ?_
    refine Kw.WL_callc rfl rfl rfl rfl F.cl23 rfl (hex_c (bA (unhexL s.data.toList.tail)) (by rw [bA_size, unhexL_len, List.length_tail, size_list]; omega) w5) ?_; intro w17 bw17
    replace HB := Kw.Below.then HB (Nat.le_refl _) bw17
    replace O_v := O_v.call bw17
    clear bw17
    refine Kw.WL_v rfl rfl rfl (Kw.R_move rfl) ?_
    obtain ⟨zz, hzz⟩ : ∃ z : Bool, decide ((bA (hexL (bA (unhexL s.data.toList.tail)).data.toList)) = s) = z := ⟨_, rfl⟩
    refine Kw.WL_v rfl rfl rfl (Kw.R_eqs rfl rfl hzz) ?_
    refine Kw.WL_v rfl rfl rfl (Kw.R_assign rfl) ?_
    refine Kw.WL_v rfl rfl rfl (Kw.R_assign rfl) ?_
    refine Kw.WL_nil ?_
    refine hK16 _ _ ?_; clear hK16 K16
    refine Kw.WC_sub (l' := [(2, .string (bA (unhexL s.data.toList.tail))), (3, .bool zz)]) (Kw.Sub.cons rfl (Kw.Sub.cons rfl Kw.Sub.nil)) ?_
    refine Kw.WC_ret ?_
    exact Kw.post_ret2 rfl rfl rfl ⟨_, rfl, ⟨⟨_, rfl⟩, HB⟩⟩
end Go.Proofs.YtpggmnomcahijaaDoor.Fn
