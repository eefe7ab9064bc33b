/- The law HouseRooms: runs. -/
import Derived.Test.YtlaeoahhfalkiaaGreatDoorHrD
import Derived.KernelRfl
set_option linter.unusedVariables false
set_option maxRecDepth 100000
set_option maxHeartbeats 0
namespace Go.Vm.Hr
open Go.Vm Go.Proofs
theorem P6_0_1_c0 : chkLf P6_0_1_0 (P6_0_1_run []) = true := by kernel_rfl
theorem P6_0_1_r : CoversL P6_0_1_run P6_0_1_d [] := P6_0_1_c0
theorem P6_0_2_c0 : chkLf P6_0_2_0 (P6_0_2_run []) = true := by kernel_rfl
theorem P6_0_2_r : CoversL P6_0_2_run P6_0_2_d [] := P6_0_2_c0
theorem P6_1_0_c0 : chkLf P6_1_0_0 (P6_1_0_run []) = true := by kernel_rfl
theorem P6_1_0_r : CoversL P6_1_0_run P6_1_0_d [] := P6_1_0_c0
theorem P6_1_1_c0 : chkLf P6_1_1_0 (P6_1_1_run []) = true := by kernel_rfl
theorem P6_1_1_r : CoversL P6_1_1_run P6_1_1_d [] := P6_1_1_c0
theorem P6_1_2_c0 : chkLf P6_1_2_0 (P6_1_2_run []) = true := by kernel_rfl
theorem P6_1_2_r : CoversL P6_1_2_run P6_1_2_d [] := P6_1_2_c0
theorem P6_2_0_c0 : chkLf P6_2_0_0 (P6_2_0_run []) = true := by kernel_rfl
theorem P6_2_0_r : CoversL P6_2_0_run P6_2_0_d [] := P6_2_0_c0
theorem P6_2_1_c0 : chkLf P6_2_1_0 (P6_2_1_run []) = true := by kernel_rfl
theorem P6_2_1_r : CoversL P6_2_1_run P6_2_1_d [] := P6_2_1_c0
theorem P6_2_2_c0 : chkLf P6_2_2_0 (P6_2_2_run []) = true := by kernel_rfl
theorem P6_2_2_r : CoversL P6_2_2_run P6_2_2_d [] := P6_2_2_c0
theorem P6_3_0_c0 : chkLf P6_3_0_0 (P6_3_0_run []) = true := by kernel_rfl
theorem P6_3_0_r : CoversL P6_3_0_run P6_3_0_d [] := P6_3_0_c0
theorem P6_3_1_c0 : chkLf P6_3_1_0 (P6_3_1_run []) = true := by kernel_rfl
theorem P6_3_1_r : CoversL P6_3_1_run P6_3_1_d [] := P6_3_1_c0
theorem P6_3_2_c0 : chkLf P6_3_2_0 (P6_3_2_run []) = true := by kernel_rfl
theorem P6_3_2_r : CoversL P6_3_2_run P6_3_2_d [] := P6_3_2_c0
theorem P6_4_0_c0 : chkLf P6_4_0_0 (P6_4_0_run []) = true := by kernel_rfl
theorem P6_4_0_r : CoversL P6_4_0_run P6_4_0_d [] := P6_4_0_c0
theorem P6_4_1_c0 : chkLf P6_4_1_0 (P6_4_1_run []) = true := by kernel_rfl
theorem P6_4_1_r : CoversL P6_4_1_run P6_4_1_d [] := P6_4_1_c0
theorem P6_4_2_c0 : chkLf P6_4_2_0 (P6_4_2_run []) = true := by kernel_rfl
theorem P6_4_2_r : CoversL P6_4_2_run P6_4_2_d [] := P6_4_2_c0
theorem P6_5_0_c0 : chkLf P6_5_0_0 (P6_5_0_run []) = true := by kernel_rfl
theorem P6_5_0_r : CoversL P6_5_0_run P6_5_0_d [] := P6_5_0_c0
theorem P6_5_1_c0 : chkLf P6_5_1_0 (P6_5_1_run []) = true := by kernel_rfl
theorem P6_5_1_r : CoversL P6_5_1_run P6_5_1_d [] := P6_5_1_c0
theorem P6_5_2_c0 : chkLf P6_5_2_0 (P6_5_2_run []) = true := by kernel_rfl
theorem P6_5_2_r : CoversL P6_5_2_run P6_5_2_d [] := P6_5_2_c0
theorem Rooms6_c0 : chkLf Rooms6_0 (Rooms6_run []) = true := by kernel_rfl
theorem Rooms6_r : CoversL Rooms6_run Rooms6_d [] := Rooms6_c0
theorem Fixed6_c0 : chkLf Fixed6_0 (Fixed6_run []) = true := by kernel_rfl
theorem Fixed6_r : CoversL Fixed6_run Fixed6_d [] := Fixed6_c0
theorem Make6_c0 : chkLf Make6_0 (Make6_run []) = true := by kernel_rfl
theorem Make6_r : CoversL Make6_run Make6_d [] := Make6_c0
theorem Inv6_c0 : chkLf Inv6_0 (Inv6_run []) = true := by kernel_rfl
theorem Inv6_r : CoversL Inv6_run Inv6_d [] := Inv6_c0
theorem P7_0_0_c0 : chkLf P7_0_0_0 (P7_0_0_run []) = true := by kernel_rfl
theorem P7_0_0_r : CoversL P7_0_0_run P7_0_0_d [] := P7_0_0_c0
theorem P7_0_1_c0 : chkLf P7_0_1_0 (P7_0_1_run []) = true := by kernel_rfl
theorem P7_0_1_r : CoversL P7_0_1_run P7_0_1_d [] := P7_0_1_c0
theorem P7_0_2_c0 : chkLf P7_0_2_0 (P7_0_2_run []) = true := by kernel_rfl
theorem P7_0_2_r : CoversL P7_0_2_run P7_0_2_d [] := P7_0_2_c0
theorem P7_1_0_c0 : chkLf P7_1_0_0 (P7_1_0_run []) = true := by kernel_rfl
theorem P7_1_0_r : CoversL P7_1_0_run P7_1_0_d [] := P7_1_0_c0
theorem P7_1_1_c0 : chkLf P7_1_1_0 (P7_1_1_run []) = true := by kernel_rfl
theorem P7_1_1_r : CoversL P7_1_1_run P7_1_1_d [] := P7_1_1_c0
theorem P7_1_2_c0 : chkLf P7_1_2_0 (P7_1_2_run []) = true := by kernel_rfl
theorem P7_1_2_r : CoversL P7_1_2_run P7_1_2_d [] := P7_1_2_c0
theorem P7_2_0_c0 : chkLf P7_2_0_0 (P7_2_0_run []) = true := by kernel_rfl
theorem P7_2_0_r : CoversL P7_2_0_run P7_2_0_d [] := P7_2_0_c0
theorem P7_2_1_c0 : chkLf P7_2_1_0 (P7_2_1_run []) = true := by kernel_rfl
theorem P7_2_1_r : CoversL P7_2_1_run P7_2_1_d [] := P7_2_1_c0
theorem P7_2_2_c0 : chkLf P7_2_2_0 (P7_2_2_run []) = true := by kernel_rfl
theorem P7_2_2_r : CoversL P7_2_2_run P7_2_2_d [] := P7_2_2_c0
theorem P7_3_0_c0 : chkLf P7_3_0_0 (P7_3_0_run []) = true := by kernel_rfl
theorem P7_3_0_r : CoversL P7_3_0_run P7_3_0_d [] := P7_3_0_c0
theorem P7_3_1_c0 : chkLf P7_3_1_0 (P7_3_1_run []) = true := by kernel_rfl
theorem P7_3_1_r : CoversL P7_3_1_run P7_3_1_d [] := P7_3_1_c0
theorem P7_3_2_c0 : chkLf P7_3_2_0 (P7_3_2_run []) = true := by kernel_rfl
theorem P7_3_2_r : CoversL P7_3_2_run P7_3_2_d [] := P7_3_2_c0
theorem P7_4_0_c0 : chkLf P7_4_0_0 (P7_4_0_run []) = true := by kernel_rfl
theorem P7_4_0_r : CoversL P7_4_0_run P7_4_0_d [] := P7_4_0_c0
theorem P7_4_1_c0 : chkLf P7_4_1_0 (P7_4_1_run []) = true := by kernel_rfl
theorem P7_4_1_r : CoversL P7_4_1_run P7_4_1_d [] := P7_4_1_c0
end Go.Vm.Hr
