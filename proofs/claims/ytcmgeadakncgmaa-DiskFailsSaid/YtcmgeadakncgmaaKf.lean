/- Facts of the program that the steps ask for: sizes, zero values, which functions have bodies. -/
import Derived.Test.YtcmgeadakncgmaaProg
import Derived.Test.YtcmgeadakncgmaaKw9
namespace Go.Proofs.Ytcmgeadakncgmaa.F
open Go Go.Proofs
theorem sz3 : Kw.sizeIs Try.prog 3 1 := by unfold Kw.sizeIs; kernel_rfl
theorem sz4 : Kw.sizeIs Try.prog 4 1 := by unfold Kw.sizeIs; kernel_rfl
theorem sz5 : Kw.sizeIs Try.prog 5 1 := by unfold Kw.sizeIs; kernel_rfl
theorem sz9 : Kw.sizeIs Try.prog 9 1 := by unfold Kw.sizeIs; kernel_rfl
theorem sz22 : Kw.sizeIs Try.prog 22 1 := by unfold Kw.sizeIs; kernel_rfl
theorem sz24 : Kw.sizeIs Try.prog 24 1 := by unfold Kw.sizeIs; kernel_rfl
theorem sz25 : Kw.sizeIs Try.prog 25 1 := by unfold Kw.sizeIs; kernel_rfl
theorem sz29 : Kw.sizeIs Try.prog 29 4 := by unfold Kw.sizeIs; kernel_rfl
theorem sz31 : Kw.sizeIs Try.prog 31 2 := by unfold Kw.sizeIs; kernel_rfl
theorem sz42 : Kw.sizeIs Try.prog 42 5 := by unfold Kw.sizeIs; kernel_rfl
theorem sz44 : Kw.sizeIs Try.prog 44 1 := by unfold Kw.sizeIs; kernel_rfl
theorem sz49 : Kw.sizeIs Try.prog 49 1 := by unfold Kw.sizeIs; kernel_rfl
theorem sz50 : Kw.sizeIs Try.prog 50 1 := by unfold Kw.sizeIs; kernel_rfl
theorem sz52 : Kw.sizeIs Try.prog 52 8 := by unfold Kw.sizeIs; kernel_rfl
theorem sz54 : Kw.sizeIs Try.prog 54 1 := by unfold Kw.sizeIs; kernel_rfl
theorem sz56 : Kw.sizeIs Try.prog 56 2 := by unfold Kw.sizeIs; kernel_rfl
theorem sz57 : Kw.sizeIs Try.prog 57 1 := by unfold Kw.sizeIs; kernel_rfl
theorem ze3 : Kw.zeroIs Try.prog 3 (.int .i64 0) := by unfold Kw.zeroIs; kernel_rfl
theorem ze4 : Kw.zeroIs Try.prog 4 (.bool false) := by unfold Kw.zeroIs; kernel_rfl
theorem ze5 : Kw.zeroIs Try.prog 5 (.int .u8 0) := by unfold Kw.zeroIs; kernel_rfl
theorem by5 : Kw.bytesIs Try.prog 5 1 := by unfold Kw.bytesIs; kernel_rfl
theorem ze9 : Kw.zeroIs Try.prog 9 (.string ⟨#[]⟩) := by unfold Kw.zeroIs; kernel_rfl
theorem ze22 : Kw.zeroIs Try.prog 22 (.slice none 0 0) := by unfold Kw.zeroIs; kernel_rfl
theorem ze24 : Kw.zeroIs Try.prog 24 (.pointer none) := by unfold Kw.zeroIs; kernel_rfl
theorem ze25 : Kw.zeroIs Try.prog 25 (.int .i64 0) := by unfold Kw.zeroIs; kernel_rfl
theorem ze29 : Kw.zeroIs Try.prog 29 (.agg #[.string ⟨#[]⟩, .string ⟨#[]⟩, .string ⟨#[]⟩, .string ⟨#[]⟩]) := by unfold Kw.zeroIs; kernel_rfl
theorem ze31 : Kw.zeroIs Try.prog 31 (.agg #[.int .u8 0, .string ⟨#[]⟩]) := by unfold Kw.zeroIs; kernel_rfl
theorem by31 : Kw.bytesIs Try.prog 31 24 := by unfold Kw.bytesIs; kernel_rfl
theorem ze42 : Kw.zeroIs Try.prog 42 (.agg #[.int .u8 0, .int .i64 0, .int .i64 0, .int .i64 0, .string ⟨#[]⟩]) := by unfold Kw.zeroIs; kernel_rfl
theorem by42 : Kw.bytesIs Try.prog 42 48 := by unfold Kw.bytesIs; kernel_rfl
theorem ze44 : Kw.zeroIs Try.prog 44 (.slice none 0 0) := by unfold Kw.zeroIs; kernel_rfl
theorem ze49 : Kw.zeroIs Try.prog 49 (.map none) := by unfold Kw.zeroIs; kernel_rfl
theorem ze50 : Kw.zeroIs Try.prog 50 (.slice none 0 0) := by unfold Kw.zeroIs; kernel_rfl
theorem ze52 : Kw.zeroIs Try.prog 52 (.agg #[.map none, .slice none 0 0, .int .i64 0, .bool false, .int .i64 0, .bool false, .int .i64 0, .int .i64 0]) := by unfold Kw.zeroIs; kernel_rfl
theorem ze54 : Kw.zeroIs Try.prog 54 (.slice none 0 0) := by unfold Kw.zeroIs; kernel_rfl
theorem ze56 : Kw.zeroIs Try.prog 56 (.agg #[.int .i64 0, .int .i64 0]) := by unfold Kw.zeroIs; kernel_rfl
theorem by56 : Kw.bytesIs Try.prog 56 16 := by unfold Kw.bytesIs; kernel_rfl
theorem ze57 : Kw.zeroIs Try.prog 57 (.map none) := by unfold Kw.zeroIs; kernel_rfl
def Z29 : Array Value := #[.string ⟨#[]⟩, .string ⟨#[]⟩, .string ⟨#[]⟩, .string ⟨#[]⟩]
theorem zr29 : Kw.zeroIs Try.prog 29 (.agg Z29) := by unfold Kw.zeroIs; kernel_rfl
def Z52 : Array Value := #[.map none, .slice none 0 0, .int .i64 0, .bool false, .int .i64 0, .bool false, .int .i64 0, .int .i64 0]
theorem zr52 : Kw.zeroIs Try.prog 52 (.agg Z52) := by unfold Kw.zeroIs; kernel_rfl
def Z56 : Array Value := #[.int .i64 0, .int .i64 0]
theorem zr56 : Kw.zeroIs Try.prog 56 (.agg Z56) := by unfold Kw.zeroIs; kernel_rfl
theorem R_bz29 {l : Kw.Env} {w : World} {D : Option Tmp} {T : TypeId} {S : String} {F : Array Edge} {g : Option (Nat × Bool)} : Kw.Runs Try.prog l ⟨D, .build 29 #[], T, S, F, g⟩ w (.agg Z29) w := fun ρ h => by kernel_rfl
theorem R_bz52 {l : Kw.Env} {w : World} {D : Option Tmp} {T : TypeId} {S : String} {F : Array Edge} {g : Option (Nat × Bool)} : Kw.Runs Try.prog l ⟨D, .build 52 #[], T, S, F, g⟩ w (.agg Z52) w := fun ρ h => by kernel_rfl
theorem cl6 : Kw.Bodied Try.prog 6 := Kw.Bodied.mk' Try.func6 (by kernel_rfl) rfl
theorem cl7 : Kw.Bodied Try.prog 7 := Kw.Bodied.mk' Try.func7 (by kernel_rfl) rfl
theorem cl8 : Kw.Bodied Try.prog 8 := Kw.Bodied.mk' Try.func8 (by kernel_rfl) rfl
theorem cl9 : Kw.Bodied Try.prog 9 := Kw.Bodied.mk' Try.func9 (by kernel_rfl) rfl
theorem cl10 : Kw.Bodied Try.prog 10 := Kw.Bodied.mk' Try.func10 (by kernel_rfl) rfl
theorem cl11 : Kw.Bodied Try.prog 11 := Kw.Bodied.mk' Try.func11 (by kernel_rfl) rfl
theorem cl12 : Kw.Bodied Try.prog 12 := Kw.Bodied.mk' Try.func12 (by kernel_rfl) rfl
theorem cl13 : Kw.Bodied Try.prog 13 := Kw.Bodied.mk' Try.func13 (by kernel_rfl) rfl
theorem cl14 : Kw.Bodied Try.prog 14 := Kw.Bodied.mk' Try.func14 (by kernel_rfl) rfl
theorem cl15 : Kw.Bodied Try.prog 15 := Kw.Bodied.mk' Try.func15 (by kernel_rfl) rfl
theorem cl16 : Kw.Bodied Try.prog 16 := Kw.Bodied.mk' Try.func16 (by kernel_rfl) rfl
theorem cl17 : Kw.Bodied Try.prog 17 := Kw.Bodied.mk' Try.func17 (by kernel_rfl) rfl
theorem cl18 : Kw.Bodied Try.prog 18 := Kw.Bodied.mk' Try.func18 (by kernel_rfl) rfl
theorem cl19 : Kw.Bodied Try.prog 19 := Kw.Bodied.mk' Try.func19 (by kernel_rfl) rfl
theorem cl20 : Kw.Bodied Try.prog 20 := Kw.Bodied.mk' Try.func20 (by kernel_rfl) rfl
theorem cl21 : Kw.Bodied Try.prog 21 := Kw.Bodied.mk' Try.func21 (by kernel_rfl) rfl
theorem cl22 : Kw.Bodied Try.prog 22 := Kw.Bodied.mk' Try.func22 (by kernel_rfl) rfl
theorem cl23 : Kw.Bodied Try.prog 23 := Kw.Bodied.mk' Try.func23 (by kernel_rfl) rfl
theorem cl24 : Kw.Bodied Try.prog 24 := Kw.Bodied.mk' Try.func24 (by kernel_rfl) rfl
theorem cl25 : Kw.Bodied Try.prog 25 := Kw.Bodied.mk' Try.func25 (by kernel_rfl) rfl
theorem cl26 : Kw.Bodied Try.prog 26 := Kw.Bodied.mk' Try.func26 (by kernel_rfl) rfl
theorem cl27 : Kw.Bodied Try.prog 27 := Kw.Bodied.mk' Try.func27 (by kernel_rfl) rfl
theorem cl28 : Kw.Bodied Try.prog 28 := Kw.Bodied.mk' Try.func28 (by kernel_rfl) rfl
theorem cl29 : Kw.Bodied Try.prog 29 := Kw.Bodied.mk' Try.func29 (by kernel_rfl) rfl
theorem cl30 : Kw.Bodied Try.prog 30 := Kw.Bodied.mk' Try.func30 (by kernel_rfl) rfl
theorem cl31 : Kw.Bodied Try.prog 31 := Kw.Bodied.mk' Try.func31 (by kernel_rfl) rfl
theorem cl32 : Kw.Bodied Try.prog 32 := Kw.Bodied.mk' Try.func32 (by kernel_rfl) rfl
theorem cl33 : Kw.Bodied Try.prog 33 := Kw.Bodied.mk' Try.func33 (by kernel_rfl) rfl
end Go.Proofs.Ytcmgeadakncgmaa.F
