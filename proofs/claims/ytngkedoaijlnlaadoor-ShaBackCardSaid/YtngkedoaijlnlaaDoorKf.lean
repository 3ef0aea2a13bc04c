/- Facts of the program that the steps ask for: sizes, zero values, which functions have bodies. -/
import Derived.Test.YtngkedoaijlnlaaDoorProg
import Derived.Test.YtngkedoaijlnlaaDoorKw4
namespace Go.Proofs.YtngkedoaijlnlaaDoor.F
open Go Go.Proofs
theorem sz3 : Kw.sizeIs Tryd.prog 3 1 := by unfold Kw.sizeIs; kernel_rfl
theorem sz4 : Kw.sizeIs Tryd.prog 4 1 := by unfold Kw.sizeIs; kernel_rfl
theorem sz5 : Kw.sizeIs Tryd.prog 5 1 := by unfold Kw.sizeIs; kernel_rfl
theorem sz9 : Kw.sizeIs Tryd.prog 9 1 := by unfold Kw.sizeIs; kernel_rfl
theorem sz24 : Kw.sizeIs Tryd.prog 24 32 := by unfold Kw.sizeIs; kernel_rfl
theorem sz31 : Kw.sizeIs Tryd.prog 31 2 := by unfold Kw.sizeIs; kernel_rfl
theorem sz32 : Kw.sizeIs Tryd.prog 32 1 := by unfold Kw.sizeIs; kernel_rfl
theorem sz34 : Kw.sizeIs Tryd.prog 34 1 := by unfold Kw.sizeIs; kernel_rfl
theorem sz38 : Kw.sizeIs Tryd.prog 38 1 := by unfold Kw.sizeIs; kernel_rfl
theorem sz39 : Kw.sizeIs Tryd.prog 39 1 := by unfold Kw.sizeIs; kernel_rfl
theorem sz40 : Kw.sizeIs Tryd.prog 40 1 := by unfold Kw.sizeIs; kernel_rfl
theorem sz48 : Kw.sizeIs Tryd.prog 48 1 := by unfold Kw.sizeIs; kernel_rfl
theorem sz50 : Kw.sizeIs Tryd.prog 50 1 := by unfold Kw.sizeIs; kernel_rfl
theorem sz51 : Kw.sizeIs Tryd.prog 51 8 := by unfold Kw.sizeIs; kernel_rfl
theorem sz55 : Kw.sizeIs Tryd.prog 55 1 := by unfold Kw.sizeIs; kernel_rfl
theorem sz56 : Kw.sizeIs Tryd.prog 56 64 := by unfold Kw.sizeIs; kernel_rfl
theorem sz58 : Kw.sizeIs Tryd.prog 58 1 := by unfold Kw.sizeIs; kernel_rfl
theorem sz62 : Kw.sizeIs Tryd.prog 62 1 := by unfold Kw.sizeIs; kernel_rfl
theorem sz64 : Kw.sizeIs Tryd.prog 64 2 := by unfold Kw.sizeIs; kernel_rfl
def Z24 : Array Value := #[.int .u8 0, .int .u8 0, .int .u8 0, .int .u8 0, .int .u8 0, .int .u8 0, .int .u8 0, .int .u8 0, .int .u8 0, .int .u8 0, .int .u8 0, .int .u8 0, .int .u8 0, .int .u8 0, .int .u8 0, .int .u8 0, .int .u8 0, .int .u8 0, .int .u8 0, .int .u8 0, .int .u8 0, .int .u8 0, .int .u8 0, .int .u8 0, .int .u8 0, .int .u8 0, .int .u8 0, .int .u8 0, .int .u8 0, .int .u8 0, .int .u8 0, .int .u8 0]
theorem zr24 : Kw.zeroIs Tryd.prog 24 (.agg Z24) := by unfold Kw.zeroIs; kernel_rfl
def Z51 : Array Value := #[.int .u32 0, .int .u32 0, .int .u32 0, .int .u32 0, .int .u32 0, .int .u32 0, .int .u32 0, .int .u32 0]
theorem zr51 : Kw.zeroIs Tryd.prog 51 (.agg Z51) := by unfold Kw.zeroIs; kernel_rfl
def Z56 : Array Value := #[.int .u32 0, .int .u32 0, .int .u32 0, .int .u32 0, .int .u32 0, .int .u32 0, .int .u32 0, .int .u32 0, .int .u32 0, .int .u32 0, .int .u32 0, .int .u32 0, .int .u32 0, .int .u32 0, .int .u32 0, .int .u32 0, .int .u32 0, .int .u32 0, .int .u32 0, .int .u32 0, .int .u32 0, .int .u32 0, .int .u32 0, .int .u32 0, .int .u32 0, .int .u32 0, .int .u32 0, .int .u32 0, .int .u32 0, .int .u32 0, .int .u32 0, .int .u32 0, .int .u32 0, .int .u32 0, .int .u32 0, .int .u32 0, .int .u32 0, .int .u32 0, .int .u32 0, .int .u32 0, .int .u32 0, .int .u32 0, .int .u32 0, .int .u32 0, .int .u32 0, .int .u32 0, .int .u32 0, .int .u32 0, .int .u32 0, .int .u32 0, .int .u32 0, .int .u32 0, .int .u32 0, .int .u32 0, .int .u32 0, .int .u32 0, .int .u32 0, .int .u32 0, .int .u32 0, .int .u32 0, .int .u32 0, .int .u32 0, .int .u32 0, .int .u32 0]
theorem zr56 : Kw.zeroIs Tryd.prog 56 (.agg Z56) := by unfold Kw.zeroIs; kernel_rfl
def Z64 : Array Value := #[.pointer none, .slice none 0 0]
theorem zr64 : Kw.zeroIs Tryd.prog 64 (.agg Z64) := by unfold Kw.zeroIs; kernel_rfl
theorem R_bz24 {l : Kw.Env} {w : World} {D : Option Tmp} {T : TypeId} {S : String} {F : Array Edge} {g : Option (Nat × Bool)} : Kw.Runs Tryd.prog l ⟨D, .build 24 #[], T, S, F, g⟩ w (.agg Z24) w := fun ρ h => by kernel_rfl
theorem cl10 : Kw.Bodied Tryd.prog 10 := Kw.Bodied.mk' Tryd.func10 (by kernel_rfl) rfl
theorem cl11 : Kw.Bodied Tryd.prog 11 := Kw.Bodied.mk' Tryd.func11 (by kernel_rfl) rfl
theorem cl12 : Kw.Bodied Tryd.prog 12 := Kw.Bodied.mk' Tryd.func12 (by kernel_rfl) rfl
theorem cl13 : Kw.Bodied Tryd.prog 13 := Kw.Bodied.mk' Tryd.func13 (by kernel_rfl) rfl
theorem cl14 : Kw.Bodied Tryd.prog 14 := Kw.Bodied.mk' Tryd.func14 (by kernel_rfl) rfl
theorem cl15 : Kw.Bodied Tryd.prog 15 := Kw.Bodied.mk' Tryd.func15 (by kernel_rfl) rfl
theorem cl16 : Kw.Bodied Tryd.prog 16 := Kw.Bodied.mk' Tryd.func16 (by kernel_rfl) rfl
theorem cl17 : Kw.Bodied Tryd.prog 17 := Kw.Bodied.mk' Tryd.func17 (by kernel_rfl) rfl
theorem cl18 : Kw.Bodied Tryd.prog 18 := Kw.Bodied.mk' Tryd.func18 (by kernel_rfl) rfl
theorem cl19 : Kw.Bodied Tryd.prog 19 := Kw.Bodied.mk' Tryd.func19 (by kernel_rfl) rfl
theorem cl20 : Kw.Bodied Tryd.prog 20 := Kw.Bodied.mk' Tryd.func20 (by kernel_rfl) rfl
theorem cl21 : Kw.Bodied Tryd.prog 21 := Kw.Bodied.mk' Tryd.func21 (by kernel_rfl) rfl
theorem cl22 : Kw.Bodied Tryd.prog 22 := Kw.Bodied.mk' Tryd.func22 (by kernel_rfl) rfl
theorem cl23 : Kw.Bodied Tryd.prog 23 := Kw.Bodied.mk' Tryd.func23 (by kernel_rfl) rfl
theorem cl24 : Kw.Bodied Tryd.prog 24 := Kw.Bodied.mk' Tryd.func24 (by kernel_rfl) rfl
theorem cl25 : Kw.Bodied Tryd.prog 25 := Kw.Bodied.mk' Tryd.func25 (by kernel_rfl) rfl
theorem cl26 : Kw.Bodied Tryd.prog 26 := Kw.Bodied.mk' Tryd.func26 (by kernel_rfl) rfl
theorem cl27 : Kw.Bodied Tryd.prog 27 := Kw.Bodied.mk' Tryd.func27 (by kernel_rfl) rfl
theorem cl28 : Kw.Bodied Tryd.prog 28 := Kw.Bodied.mk' Tryd.func28 (by kernel_rfl) rfl
theorem cl29 : Kw.Bodied Tryd.prog 29 := Kw.Bodied.mk' Tryd.func29 (by kernel_rfl) rfl
theorem cl30 : Kw.Bodied Tryd.prog 30 := Kw.Bodied.mk' Tryd.func30 (by kernel_rfl) rfl
theorem cl31 : Kw.Bodied Tryd.prog 31 := Kw.Bodied.mk' Tryd.func31 (by kernel_rfl) rfl
theorem cl32 : Kw.Bodied Tryd.prog 32 := Kw.Bodied.mk' Tryd.func32 (by kernel_rfl) rfl
theorem cl33 : Kw.Bodied Tryd.prog 33 := Kw.Bodied.mk' Tryd.func33 (by kernel_rfl) rfl
theorem cl34 : Kw.Bodied Tryd.prog 34 := Kw.Bodied.mk' Tryd.func34 (by kernel_rfl) rfl
theorem cl35 : Kw.Bodied Tryd.prog 35 := Kw.Bodied.mk' Tryd.func35 (by kernel_rfl) rfl
theorem cl36 : Kw.Bodied Tryd.prog 36 := Kw.Bodied.mk' Tryd.func36 (by kernel_rfl) rfl
theorem cl37 : Kw.Bodied Tryd.prog 37 := Kw.Bodied.mk' Tryd.func37 (by kernel_rfl) rfl
theorem cl38 : Kw.Bodied Tryd.prog 38 := Kw.Bodied.mk' Tryd.func38 (by kernel_rfl) rfl
theorem cl39 : Kw.Bodied Tryd.prog 39 := Kw.Bodied.mk' Tryd.func39 (by kernel_rfl) rfl
theorem cl40 : Kw.Bodied Tryd.prog 40 := Kw.Bodied.mk' Tryd.func40 (by kernel_rfl) rfl
theorem cl41 : Kw.Bodied Tryd.prog 41 := Kw.Bodied.mk' Tryd.func41 (by kernel_rfl) rfl
theorem cl44 : Kw.Bodied Tryd.prog 44 := Kw.Bodied.mk' Tryd.func44 (by kernel_rfl) rfl
theorem cl45 : Kw.Bodied Tryd.prog 45 := Kw.Bodied.mk' Tryd.func45 (by kernel_rfl) rfl
theorem cl51 : Kw.Bodied Tryd.prog 51 := Kw.Bodied.mk' Tryd.func51 (by kernel_rfl) rfl
end Go.Proofs.YtngkedoaijlnlaaDoor.F
