-- Written by a program of this session out of printed texts: the functions of this seat that the print takes (but for one that fell).
import Derived.Test.YtngkedoaijlnlaaDoorProg
import Derived.Below
import Derived.Deep.Draws
import Derived.Deep.AppendLies
import Derived.Maps.AppendAt
import Derived.OwnWalk
import Derived.Laws.BytesArg
import Derived.Laws.MakeOwn
import Derived.Laws.OwnMore
import Derived.Deep.OwnRows
import Derived.Tactics
import Derived.Lib.ConvBytes
import Derived.Laws.Slices
import Derived.WalkKit
import Derived.KernelRfl
import Derived.RowKit3
import Derived.Deep.LoopGhost
import Derived.Deep.QuietTactic
import Derived.BigQuiet
import Derived.WideLaws
import Derived.Deep.DeepCutAuto
import Derived.Deep.CutBlock
import Derived.Deep.RegionHeld3
import Derived.Laws.Rows
import Derived.Lib.AppendStr
import Derived.ArgAppend
import Derived.Laws.IdiomCopy
import Derived.OrdersHeld
import Derived.Laws.BitsLemmas
import Derived.RowKit
import Derived.Test.YtngkedoaijlnlaaDoorWWords
import Derived.Test.YtngkedoaijlnlaaDoorWLast
import Derived.Test.YtngkedoaijlnlaaDoorWTab
import Derived.Test.YtngkedoaijlnlaaDoorWFour
import Derived.Test.YtngkedoaijlnlaaDoorWQPut
import Derived.Test.YtngkedoaijlnlaaDoorWApart
import Derived.Test.YtngkedoaijlnlaaDoorWArr
import Derived.Test.YtngkedoaijlnlaaDoorWZeros
import Derived.Test.YtngkedoaijlnlaaDoorWFoot
import Derived.Test.YtngkedoaijlnlaaDoorWKept
import Derived.Test.YtngkedoaijlnlaaDoorWShare
import Derived.Test.YtngkedoaijlnlaaDoorWN
import Derived.Test.YtngkedoaijlnlaaDoorWFootNe
import Derived.Test.YtngkedoaijlnlaaDoorWAt
import Derived.Test.YtngkedoaijlnlaaDoorWEqStruct
import Derived.Test.YtngkedoaijlnlaaDoorWRepsOne
import Derived.Test.YtngkedoaijlnlaaDoorWInv
import Derived.Test.YtngkedoaijlnlaaDoorWInvWords
import Derived.Test.YtngkedoaijlnlaaDoorWGuard
import Derived.Test.YtngkedoaijlnlaaDoorWNEv
import Derived.Test.YtngkedoaijlnlaaDoorWMore
namespace Go.Proofs.YtngkedoaijlnlaaDoor.Fn
open Go.RowKit Go.Proofs.YtngkedoaijlnlaaDoorW.PrintWords Go.Proofs.YtngkedoaijlnlaaDoorW.PrintLast Go.Proofs.YtngkedoaijlnlaaDoorW.PrintMore
attribute [local go_sem] max2_int min2_int max_two min_two max_three min_three max_four min_four   -- for this text's walks alone
set_option linter.unusedVariables false
set_option linter.unusedSimpArgs false



def errW : Option Int → Value
  | none => .nilIface
  | some c => .iface 0 (.int .i64 c)
theorem errW_none : errW none = .nilIface := rfl
theorem errW_some (c : Int) : errW (some c) = .iface 0 (.int .i64 c) := rfl

theorem info5 : (Tryd.prog.info? 5).map (fun i => (i.zero, i.size, i.bytes)) = some (some (.int .u8 0), 1, 1) := by kernel_rfl
-- the values' own types

end Go.Proofs.YtngkedoaijlnlaaDoor.Fn
