-- From a text of the kit's print over a variant of the program (vprint.py).
import Derived.Test.YtfjnhdbbjggkmaaProg
import Derived.Below
import Derived.Deep.Draws
import Derived.Deep.AppendLies
import Derived.Maps.AppendAt
import Derived.OwnWalk
import Derived.Laws.BytesArg
import Derived.Laws.MakeOwn
import Derived.Laws.OwnMore
import Derived.Deep.OwnRows
import Derived.Tactics
import Derived.Lib.ConvBytes
import Derived.Laws.Slices
import Derived.WalkKit
import Derived.KernelRfl
import Derived.RowKit3
import Derived.Deep.LoopGhost
import Derived.Deep.QuietTactic
import Derived.BigQuiet
import Derived.WideLaws
import Derived.Deep.DeepCutAuto
import Derived.Deep.CutBlock
import Derived.Deep.RegionHeld3
import Derived.Laws.Rows
import Derived.Lib.AppendStr
import Derived.ArgAppend
import Derived.Laws.IdiomCopy
import Derived.OrdersHeld
import Derived.Laws.BitsLemmas
import Derived.RowKit
import Derived.Test.YtfjnhdbbjggkmaaWWords
import Derived.Test.YtfjnhdbbjggkmaaWLast
import Derived.Test.YtfjnhdbbjggkmaaWTab
import Derived.Test.YtfjnhdbbjggkmaaWFour
import Derived.Test.YtfjnhdbbjggkmaaWQPut
import Derived.Test.YtfjnhdbbjggkmaaWApart
import Derived.Test.YtfjnhdbbjggkmaaWArr
import Derived.Test.YtfjnhdbbjggkmaaWZeros
import Derived.Test.YtfjnhdbbjggkmaaWFoot
import Derived.Test.YtfjnhdbbjggkmaaWKept
import Derived.Test.YtfjnhdbbjggkmaaWShare
import Derived.Test.YtfjnhdbbjggkmaaWN
import Derived.Test.YtfjnhdbbjggkmaaWFootNe
import Derived.Test.YtfjnhdbbjggkmaaWAt
import Derived.Test.YtfjnhdbbjggkmaaWEqStruct
import Derived.Test.YtfjnhdbbjggkmaaWRepsOne
import Derived.Test.YtfjnhdbbjggkmaaWInv
import Derived.Test.YtfjnhdbbjggkmaaWInvWords
import Derived.Test.YtfjnhdbbjggkmaaWGuard
import Derived.Test.YtfjnhdbbjggkmaaWNEv
import Derived.Test.YtfjnhdbbjggkmaaWMore
namespace Go.Proofs.Ytfjnhdbbjggkmaa.PTableAll
open Go.RowKit Go.Proofs.YtfjnhdbbjggkmaaW.PrintWords Go.Proofs.YtfjnhdbbjggkmaaW.PrintLast Go.Proofs.YtfjnhdbbjggkmaaW.PrintMore
attribute [local go_sem] max2_int min2_int max_two min_two max_three min_three max_four min_four   -- for this text's walks alone
set_option linter.unusedVariables false
set_option linter.unusedSimpArgs false



def errW : Option Int → Value
  | none => .nilIface
  | some c => .iface 0 (.int .i64 c)
theorem errW_none : errW none = .nilIface := rfl
theorem errW_some (c : Int) : errW (some c) = .iface 0 (.int .i64 c) := rfl

theorem info5 : (Try.prog.info? 5).map (fun i => (i.zero, i.size, i.bytes)) = some (some (.int .u8 0), 1, 1) := by kernel_rfl
theorem info24 : (Try.prog.info? 23).map (fun i => (i.zero, i.size, i.bytes)) = some (some (.int .u64 0), 1, 8) := by kernel_rfl
-- the values' own types

end Go.Proofs.Ytfjnhdbbjggkmaa.PTableAll
