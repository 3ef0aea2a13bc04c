/- maps.Clone laid at this program (the kit's lay-plain.mjs). -/
import Derived.Shelf.SlLaysW
import Derived.Shelf.SlMaps.Clone
import Derived.Test.YtidoilcgdfhfiaaProg
namespace Go.Proofs
open Go.Shelf
def Try.cloneKey_ren : Go.Shelf.Ren := ⟨fun | 5 => 23 | 7 => 28 | n => n, fun | 23 => 50 | 25 => 29 | 3 => 3 | 4 => 4 | 20 => 20 | n => n, fun | n => n⟩
theorem Try.cloneKey : Go.Proofs.SlLaysW.n5 Try.prog Try.cloneKey_ren := {
  mixed := by kernel_rfl
  f5 := ⟨Try.f23.name, by decide, Try.func23.trans (congrArg some (by kernel_rfl))⟩
  f7 := Try.func28.trans (congrArg some (by kernel_rfl))
  t4 := Try.underlying4
  a4 := Try.isAgg4
  z4 := Try.sizeOf4
  v4 := Try.zeroValue4
  t20 := Try.underlying20
  a20 := Try.isAgg20
  z20 := Try.sizeOf20
  v20 := Try.zeroValue20
  t23 := Try.underlying50
  a23 := Try.isAgg50
  z23 := Try.sizeOf50
  v23 := Try.zeroValue50 }
end Go.Proofs
