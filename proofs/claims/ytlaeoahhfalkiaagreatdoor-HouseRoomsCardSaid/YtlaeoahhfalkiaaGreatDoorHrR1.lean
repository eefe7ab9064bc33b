/- The law HouseRooms: runs. -/
import Derived.Test.YtlaeoahhfalkiaaGreatDoorHrD
import Derived.KernelRfl
set_option linter.unusedVariables false
set_option maxRecDepth 100000
set_option maxHeartbeats 0
namespace Go.Vm.Hr
open Go.Vm Go.Proofs
theorem P4_0_1_c0 : chkLf P4_0_1_0 (P4_0_1_run []) = true := by kernel_rfl
theorem P4_0_1_r : CoversL P4_0_1_run P4_0_1_d [] := P4_0_1_c0
theorem P4_0_2_c0 : chkLf P4_0_2_0 (P4_0_2_run []) = true := by kernel_rfl
theorem P4_0_2_r : CoversL P4_0_2_run P4_0_2_d [] := P4_0_2_c0
theorem P4_1_0_c0 : chkLf P4_1_0_0 (P4_1_0_run []) = true := by kernel_rfl
theorem P4_1_0_r : CoversL P4_1_0_run P4_1_0_d [] := P4_1_0_c0
theorem P4_1_1_c0 : chkLf P4_1_1_0 (P4_1_1_run []) = true := by kernel_rfl
theorem P4_1_1_r : CoversL P4_1_1_run P4_1_1_d [] := P4_1_1_c0
theorem P4_1_2_c0 : chkLf P4_1_2_0 (P4_1_2_run []) = true := by kernel_rfl
theorem P4_1_2_r : CoversL P4_1_2_run P4_1_2_d [] := P4_1_2_c0
theorem P4_2_0_c0 : chkLf P4_2_0_0 (P4_2_0_run []) = true := by kernel_rfl
theorem P4_2_0_r : CoversL P4_2_0_run P4_2_0_d [] := P4_2_0_c0
theorem P4_2_1_c0 : chkLf P4_2_1_0 (P4_2_1_run []) = true := by kernel_rfl
theorem P4_2_1_r : CoversL P4_2_1_run P4_2_1_d [] := P4_2_1_c0
theorem P4_2_2_c0 : chkLf P4_2_2_0 (P4_2_2_run []) = true := by kernel_rfl
theorem P4_2_2_r : CoversL P4_2_2_run P4_2_2_d [] := P4_2_2_c0
theorem P4_3_0_c0 : chkLf P4_3_0_0 (P4_3_0_run []) = true := by kernel_rfl
theorem P4_3_0_r : CoversL P4_3_0_run P4_3_0_d [] := P4_3_0_c0
theorem P4_3_1_c0 : chkLf P4_3_1_0 (P4_3_1_run []) = true := by kernel_rfl
theorem P4_3_1_r : CoversL P4_3_1_run P4_3_1_d [] := P4_3_1_c0
theorem P4_3_2_c0 : chkLf P4_3_2_0 (P4_3_2_run []) = true := by kernel_rfl
theorem P4_3_2_r : CoversL P4_3_2_run P4_3_2_d [] := P4_3_2_c0
theorem Rooms4_c0 : chkLf Rooms4_0 (Rooms4_run []) = true := by kernel_rfl
theorem Rooms4_r : CoversL Rooms4_run Rooms4_d [] := Rooms4_c0
theorem Fixed4_c0 : chkLf Fixed4_0 (Fixed4_run []) = true := by kernel_rfl
theorem Fixed4_r : CoversL Fixed4_run Fixed4_d [] := Fixed4_c0
theorem Make4_c0 : chkLf Make4_0 (Make4_run []) = true := by kernel_rfl
theorem Make4_r : CoversL Make4_run Make4_d [] := Make4_c0
theorem Inv4_c0 : chkLf Inv4_0 (Inv4_run []) = true := by kernel_rfl
theorem Inv4_r : CoversL Inv4_run Inv4_d [] := Inv4_c0
theorem P5_0_0_c0 : chkLf P5_0_0_0 (P5_0_0_run []) = true := by kernel_rfl
theorem P5_0_0_r : CoversL P5_0_0_run P5_0_0_d [] := P5_0_0_c0
theorem P5_0_1_c0 : chkLf P5_0_1_0 (P5_0_1_run []) = true := by kernel_rfl
theorem P5_0_1_r : CoversL P5_0_1_run P5_0_1_d [] := P5_0_1_c0
theorem P5_0_2_c0 : chkLf P5_0_2_0 (P5_0_2_run []) = true := by kernel_rfl
theorem P5_0_2_r : CoversL P5_0_2_run P5_0_2_d [] := P5_0_2_c0
theorem P5_1_0_c0 : chkLf P5_1_0_0 (P5_1_0_run []) = true := by kernel_rfl
theorem P5_1_0_r : CoversL P5_1_0_run P5_1_0_d [] := P5_1_0_c0
theorem P5_1_1_c0 : chkLf P5_1_1_0 (P5_1_1_run []) = true := by kernel_rfl
theorem P5_1_1_r : CoversL P5_1_1_run P5_1_1_d [] := P5_1_1_c0
theorem P5_1_2_c0 : chkLf P5_1_2_0 (P5_1_2_run []) = true := by kernel_rfl
theorem P5_1_2_r : CoversL P5_1_2_run P5_1_2_d [] := P5_1_2_c0
theorem P5_2_0_c0 : chkLf P5_2_0_0 (P5_2_0_run []) = true := by kernel_rfl
theorem P5_2_0_r : CoversL P5_2_0_run P5_2_0_d [] := P5_2_0_c0
theorem P5_2_1_c0 : chkLf P5_2_1_0 (P5_2_1_run []) = true := by kernel_rfl
theorem P5_2_1_r : CoversL P5_2_1_run P5_2_1_d [] := P5_2_1_c0
theorem P5_2_2_c0 : chkLf P5_2_2_0 (P5_2_2_run []) = true := by kernel_rfl
theorem P5_2_2_r : CoversL P5_2_2_run P5_2_2_d [] := P5_2_2_c0
theorem P5_3_0_c0 : chkLf P5_3_0_0 (P5_3_0_run []) = true := by kernel_rfl
theorem P5_3_0_r : CoversL P5_3_0_run P5_3_0_d [] := P5_3_0_c0
theorem P5_3_1_c0 : chkLf P5_3_1_0 (P5_3_1_run []) = true := by kernel_rfl
theorem P5_3_1_r : CoversL P5_3_1_run P5_3_1_d [] := P5_3_1_c0
theorem P5_3_2_c0 : chkLf P5_3_2_0 (P5_3_2_run []) = true := by kernel_rfl
theorem P5_3_2_r : CoversL P5_3_2_run P5_3_2_d [] := P5_3_2_c0
theorem P5_4_0_c0 : chkLf P5_4_0_0 (P5_4_0_run []) = true := by kernel_rfl
theorem P5_4_0_r : CoversL P5_4_0_run P5_4_0_d [] := P5_4_0_c0
theorem P5_4_1_c0 : chkLf P5_4_1_0 (P5_4_1_run []) = true := by kernel_rfl
theorem P5_4_1_r : CoversL P5_4_1_run P5_4_1_d [] := P5_4_1_c0
theorem P5_4_2_c0 : chkLf P5_4_2_0 (P5_4_2_run []) = true := by kernel_rfl
theorem P5_4_2_r : CoversL P5_4_2_run P5_4_2_d [] := P5_4_2_c0
theorem Rooms5_c0 : chkLf Rooms5_0 (Rooms5_run []) = true := by kernel_rfl
theorem Rooms5_r : CoversL Rooms5_run Rooms5_d [] := Rooms5_c0
theorem Fixed5_c0 : chkLf Fixed5_0 (Fixed5_run []) = true := by kernel_rfl
theorem Fixed5_r : CoversL Fixed5_run Fixed5_d [] := Fixed5_c0
theorem Make5_c0 : chkLf Make5_0 (Make5_run []) = true := by kernel_rfl
theorem Make5_r : CoversL Make5_run Make5_d [] := Make5_c0
theorem Inv5_c0 : chkLf Inv5_0 (Inv5_run []) = true := by kernel_rfl
theorem Inv5_r : CoversL Inv5_run Inv5_d [] := Inv5_c0
theorem P6_0_0_c0 : chkLf P6_0_0_0 (P6_0_0_run []) = true := by kernel_rfl
theorem P6_0_0_r : CoversL P6_0_0_run P6_0_0_d [] := P6_0_0_c0
end Go.Vm.Hr
