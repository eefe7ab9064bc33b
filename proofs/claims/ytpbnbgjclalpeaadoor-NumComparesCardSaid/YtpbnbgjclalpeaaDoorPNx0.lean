-- Written by the kit's print.py over a stubbed print (numprint.py).
import Derived.Test.YtpbnbgjclalpeaaDoorProg
import Derived.Below
import Derived.Deep.Draws
import Derived.Deep.AppendLies
import Derived.Maps.AppendAt
import Derived.OwnWalk
import Derived.Laws.BytesArg
import Derived.Laws.MakeOwn
import Derived.Laws.OwnMore
import Derived.Deep.OwnRows
import Derived.Tactics
import Derived.Lib.ConvBytes
import Derived.Laws.Slices
import Derived.WalkKit
import Derived.KernelRfl
import Derived.RowKit3
import Derived.Deep.LoopGhost
import Derived.Deep.QuietTactic
import Derived.BigQuiet
import Derived.WideLaws
import Derived.Deep.DeepCutAuto
import Derived.Deep.CutBlock
import Derived.Deep.RegionHeld3
import Derived.Laws.Rows
import Derived.Lib.AppendStr
import Derived.ArgAppend
import Derived.Laws.IdiomCopy
import Derived.OrdersHeld
import Derived.Laws.BitsLemmas
import Derived.RowKit
import Derived.Test.YtpbnbgjclalpeaaDoorWWords
import Derived.Test.YtpbnbgjclalpeaaDoorWLast
import Derived.Test.YtpbnbgjclalpeaaDoorWTab
import Derived.Test.YtpbnbgjclalpeaaDoorWFour
import Derived.Test.YtpbnbgjclalpeaaDoorWQPut
import Derived.Test.YtpbnbgjclalpeaaDoorWApart
import Derived.Test.YtpbnbgjclalpeaaDoorWArr
import Derived.Test.YtpbnbgjclalpeaaDoorWZeros
import Derived.Test.YtpbnbgjclalpeaaDoorWFoot
import Derived.Test.YtpbnbgjclalpeaaDoorWKept
import Derived.Test.YtpbnbgjclalpeaaDoorWShare
import Derived.Test.YtpbnbgjclalpeaaDoorWN
import Derived.Test.YtpbnbgjclalpeaaDoorWFootNe
import Derived.Test.YtpbnbgjclalpeaaDoorWAt
import Derived.Test.YtpbnbgjclalpeaaDoorWEqStruct
import Derived.Test.YtpbnbgjclalpeaaDoorWRepsOne
import Derived.Test.YtpbnbgjclalpeaaDoorWInv
import Derived.Test.YtpbnbgjclalpeaaDoorWInvWords
import Derived.Test.YtpbnbgjclalpeaaDoorWGuard
import Derived.Test.YtpbnbgjclalpeaaDoorWNEv
import Derived.Test.YtpbnbgjclalpeaaDoorWMore
namespace Go.Proofs.YtpbnbgjclalpeaaDoor.PN
open Go.RowKit Go.Proofs.YtpbnbgjclalpeaaDoorW.PrintWords Go.Proofs.YtpbnbgjclalpeaaDoorW.PrintLast Go.Proofs.YtpbnbgjclalpeaaDoorW.PrintMore
attribute [local go_sem] max2_int min2_int max_two min_two max_three min_three max_four min_four   -- for this text's walks alone
set_option linter.unusedVariables false
set_option linter.unusedSimpArgs false



def errW : Option Int → Value
  | none => .nilIface
  | some c => .iface 0 (.int .i64 c)
theorem errW_none : errW none = .nilIface := rfl
theorem errW_some (c : Int) : errW (some c) = .iface 0 (.int .i64 c) := rfl

theorem info3 : (Tryd.prog.info? 3).map (fun i => (i.zero, i.size, i.bytes)) = some (some (.int .i64 0), 1, 8) := by kernel_rfl
theorem info4 : (Tryd.prog.info? 4).map (fun i => (i.zero, i.size, i.bytes)) = some (some (.bool false), 1, 1) := by kernel_rfl
theorem info22 : (Tryd.prog.info? 22).map (fun i => (i.zero, i.size, i.bytes)) = some (some (.int .u64 0), 1, 8) := by kernel_rfl
-- the values' own types

end Go.Proofs.YtpbnbgjclalpeaaDoor.PN
