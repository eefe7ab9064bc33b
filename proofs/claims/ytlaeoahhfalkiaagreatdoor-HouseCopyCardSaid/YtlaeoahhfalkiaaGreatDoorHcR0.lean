/- The law HouseCopy: runs. -/
import Derived.Test.YtlaeoahhfalkiaaGreatDoorHcB
import Derived.KernelRfl
set_option linter.unusedVariables false
set_option maxRecDepth 100000
set_option maxHeartbeats 0
namespace Go.Vm.Hc
open Go.Vm Go.Proofs
theorem New_c0 : chkLf New_0 (New_run []) = true := by kernel_rfl
theorem New_r : CoversL New_run New_d [] := New_c0
theorem Fixed_c0 : chkLf Fixed_0 (Fixed_run []) = true := by kernel_rfl
theorem Fixed_r : CoversL Fixed_run Fixed_d [] := Fixed_c0
theorem Make_c0 : chkLf Make_0 (Make_run []) = true := by kernel_rfl
theorem Make_r : CoversL Make_run Make_d [] := Make_c0
theorem Room_c0 : chkLf Room_0 (Room_run []) = true := by kernel_rfl
theorem Room_r : CoversL Room_run Room_d [] := Room_c0
theorem Copy_c0 : chkLf Copy_0 (Copy_run []) = true := by kernel_rfl
theorem Copy_r : CoversL Copy_run Copy_d [] := Copy_c0
theorem Room2_c0 : chkLf Room2_0 (Room2_run []) = true := by kernel_rfl
theorem Room2_r : CoversL Room2_run Room2_d [] := Room2_c0
theorem Same_c0 : chkLf Same_0 (Same_run []) = true := by kernel_rfl
theorem Same_r : CoversL Same_run Same_d [] := Same_c0
end Go.Vm.Hc
