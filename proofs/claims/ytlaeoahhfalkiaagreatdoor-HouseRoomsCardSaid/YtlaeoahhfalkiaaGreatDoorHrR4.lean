/- The law HouseRooms: runs. -/
import Derived.Test.YtlaeoahhfalkiaaGreatDoorHrD
import Derived.KernelRfl
set_option linter.unusedVariables false
set_option maxRecDepth 100000
set_option maxHeartbeats 0
namespace Go.Vm.Hr
open Go.Vm Go.Proofs
theorem Make9_c0 : chkLf Make9_0 (Make9_run []) = true := by kernel_rfl
theorem Make9_r : CoversL Make9_run Make9_d [] := Make9_c0
end Go.Vm.Hr
