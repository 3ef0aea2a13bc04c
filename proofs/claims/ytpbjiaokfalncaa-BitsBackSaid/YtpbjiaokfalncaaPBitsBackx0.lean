-- Written by a program of this session: a copy of the print with a patched reader of long texts.
import Derived.Test.YtpbjiaokfalncaaProg
import Derived.Below
import Derived.Deep.Draws
import Derived.Deep.AppendLies
import Derived.Maps.AppendAt
import Derived.OwnWalk
import Derived.Laws.BytesArg
import Derived.Laws.MakeOwn
import Derived.Laws.OwnMore
import Derived.Deep.OwnRows
import Derived.Tactics
import Derived.Lib.ConvBytes
import Derived.Laws.Slices
import Derived.WalkKit
import Derived.KernelRfl
import Derived.RowKit3
import Derived.Deep.LoopGhost
import Derived.Deep.QuietTactic
import Derived.BigQuiet
import Derived.WideLaws
import Derived.Deep.DeepCutAuto
import Derived.Deep.CutBlock
import Derived.Deep.RegionHeld3
import Derived.Laws.Rows
import Derived.Lib.AppendStr
import Derived.ArgAppend
import Derived.Laws.IdiomCopy
import Derived.OrdersHeld
import Derived.Laws.BitsLemmas
import Derived.RowKit
import Derived.Test.YtpbjiaokfalncaaWWords
import Derived.Test.YtpbjiaokfalncaaWLast
import Derived.Test.YtpbjiaokfalncaaWTab
import Derived.Test.YtpbjiaokfalncaaWFour
import Derived.Test.YtpbjiaokfalncaaWQPut
import Derived.Test.YtpbjiaokfalncaaWApart
import Derived.Test.YtpbjiaokfalncaaWArr
import Derived.Test.YtpbjiaokfalncaaWZeros
import Derived.Test.YtpbjiaokfalncaaWFoot
import Derived.Test.YtpbjiaokfalncaaWKept
import Derived.Test.YtpbjiaokfalncaaWShare
import Derived.Test.YtpbjiaokfalncaaWN
import Derived.Test.YtpbjiaokfalncaaWFootNe
import Derived.Test.YtpbjiaokfalncaaWAt
import Derived.Test.YtpbjiaokfalncaaWEqStruct
import Derived.Test.YtpbjiaokfalncaaWRepsOne
import Derived.Test.YtpbjiaokfalncaaWInv
import Derived.Test.YtpbjiaokfalncaaWInvWords
import Derived.Test.YtpbjiaokfalncaaWGuard
import Derived.Test.YtpbjiaokfalncaaWNEv
import Derived.Test.YtpbjiaokfalncaaWMore
namespace Go.Proofs.Ytpbjiaokfalncaa.PBitsBack
open Go.RowKit Go.Proofs.YtpbjiaokfalncaaW.PrintWords Go.Proofs.YtpbjiaokfalncaaW.PrintLast Go.Proofs.YtpbjiaokfalncaaW.PrintMore
attribute [local go_sem] max2_int min2_int max_two min_two max_three min_three max_four min_four   -- for this text's walks alone
set_option linter.unusedVariables false
set_option linter.unusedSimpArgs false



def errW : Option Int → Value
  | none => .nilIface
  | some c => .iface 0 (.int .i64 c)
theorem errW_none : errW none = .nilIface := rfl
theorem errW_some (c : Int) : errW (some c) = .iface 0 (.int .i64 c) := rfl

theorem info5 : (Try.prog.info? 5).map (fun i => (i.zero, i.size, i.bytes)) = some (some (.int .u8 0), 1, 1) := by kernel_rfl
-- the values' own types

end Go.Proofs.Ytpbjiaokfalncaa.PBitsBack
