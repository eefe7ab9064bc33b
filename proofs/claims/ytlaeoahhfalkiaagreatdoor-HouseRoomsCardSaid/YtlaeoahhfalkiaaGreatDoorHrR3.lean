/- The law HouseRooms: runs. -/
import Derived.Test.YtlaeoahhfalkiaaGreatDoorHrD
import Derived.KernelRfl
set_option linter.unusedVariables false
set_option maxRecDepth 100000
set_option maxHeartbeats 0
namespace Go.Vm.Hr
open Go.Vm Go.Proofs
theorem P7_4_2_c0 : chkLf P7_4_2_0 (P7_4_2_run []) = true := by kernel_rfl
theorem P7_4_2_r : CoversL P7_4_2_run P7_4_2_d [] := P7_4_2_c0
theorem P7_5_0_c0 : chkLf P7_5_0_0 (P7_5_0_run []) = true := by kernel_rfl
theorem P7_5_0_r : CoversL P7_5_0_run P7_5_0_d [] := P7_5_0_c0
theorem P7_5_1_c0 : chkLf P7_5_1_0 (P7_5_1_run []) = true := by kernel_rfl
theorem P7_5_1_r : CoversL P7_5_1_run P7_5_1_d [] := P7_5_1_c0
theorem P7_5_2_c0 : chkLf P7_5_2_0 (P7_5_2_run []) = true := by kernel_rfl
theorem P7_5_2_r : CoversL P7_5_2_run P7_5_2_d [] := P7_5_2_c0
theorem P7_6_0_c0 : chkLf P7_6_0_0 (P7_6_0_run []) = true := by kernel_rfl
theorem P7_6_0_r : CoversL P7_6_0_run P7_6_0_d [] := P7_6_0_c0
theorem P7_6_1_c0 : chkLf P7_6_1_0 (P7_6_1_run []) = true := by kernel_rfl
theorem P7_6_1_r : CoversL P7_6_1_run P7_6_1_d [] := P7_6_1_c0
theorem P7_6_2_c0 : chkLf P7_6_2_0 (P7_6_2_run []) = true := by kernel_rfl
theorem P7_6_2_r : CoversL P7_6_2_run P7_6_2_d [] := P7_6_2_c0
theorem Rooms7_c0 : chkLf Rooms7_0 (Rooms7_run []) = true := by kernel_rfl
theorem Rooms7_r : CoversL Rooms7_run Rooms7_d [] := Rooms7_c0
theorem Fixed7_c0 : chkLf Fixed7_0 (Fixed7_run []) = true := by kernel_rfl
theorem Fixed7_r : CoversL Fixed7_run Fixed7_d [] := Fixed7_c0
theorem Make7_c0 : chkLf Make7_0 (Make7_run []) = true := by kernel_rfl
theorem Make7_r : CoversL Make7_run Make7_d [] := Make7_c0
theorem Inv7_c0 : chkLf Inv7_0 (Inv7_run []) = true := by kernel_rfl
theorem Inv7_r : CoversL Inv7_run Inv7_d [] := Inv7_c0
theorem P8_0_0_c0 : chkLf P8_0_0_0 (P8_0_0_run []) = true := by kernel_rfl
theorem P8_0_0_r : CoversL P8_0_0_run P8_0_0_d [] := P8_0_0_c0
theorem P8_0_1_c0 : chkLf P8_0_1_0 (P8_0_1_run []) = true := by kernel_rfl
theorem P8_0_1_r : CoversL P8_0_1_run P8_0_1_d [] := P8_0_1_c0
theorem P8_0_2_c0 : chkLf P8_0_2_0 (P8_0_2_run []) = true := by kernel_rfl
theorem P8_0_2_r : CoversL P8_0_2_run P8_0_2_d [] := P8_0_2_c0
theorem P8_1_0_c0 : chkLf P8_1_0_0 (P8_1_0_run []) = true := by kernel_rfl
theorem P8_1_0_r : CoversL P8_1_0_run P8_1_0_d [] := P8_1_0_c0
theorem P8_1_1_c0 : chkLf P8_1_1_0 (P8_1_1_run []) = true := by kernel_rfl
theorem P8_1_1_r : CoversL P8_1_1_run P8_1_1_d [] := P8_1_1_c0
theorem P8_1_2_c0 : chkLf P8_1_2_0 (P8_1_2_run []) = true := by kernel_rfl
theorem P8_1_2_r : CoversL P8_1_2_run P8_1_2_d [] := P8_1_2_c0
theorem P8_2_0_c0 : chkLf P8_2_0_0 (P8_2_0_run []) = true := by kernel_rfl
theorem P8_2_0_r : CoversL P8_2_0_run P8_2_0_d [] := P8_2_0_c0
theorem P8_2_1_c0 : chkLf P8_2_1_0 (P8_2_1_run []) = true := by kernel_rfl
theorem P8_2_1_r : CoversL P8_2_1_run P8_2_1_d [] := P8_2_1_c0
theorem P8_2_2_c0 : chkLf P8_2_2_0 (P8_2_2_run []) = true := by kernel_rfl
theorem P8_2_2_r : CoversL P8_2_2_run P8_2_2_d [] := P8_2_2_c0
theorem P8_3_0_c0 : chkLf P8_3_0_0 (P8_3_0_run []) = true := by kernel_rfl
theorem P8_3_0_r : CoversL P8_3_0_run P8_3_0_d [] := P8_3_0_c0
theorem P8_3_1_c0 : chkLf P8_3_1_0 (P8_3_1_run []) = true := by kernel_rfl
theorem P8_3_1_r : CoversL P8_3_1_run P8_3_1_d [] := P8_3_1_c0
theorem P8_3_2_c0 : chkLf P8_3_2_0 (P8_3_2_run []) = true := by kernel_rfl
theorem P8_3_2_r : CoversL P8_3_2_run P8_3_2_d [] := P8_3_2_c0
theorem P8_4_0_c0 : chkLf P8_4_0_0 (P8_4_0_run []) = true := by kernel_rfl
theorem P8_4_0_r : CoversL P8_4_0_run P8_4_0_d [] := P8_4_0_c0
theorem P8_4_1_c0 : chkLf P8_4_1_0 (P8_4_1_run []) = true := by kernel_rfl
theorem P8_4_1_r : CoversL P8_4_1_run P8_4_1_d [] := P8_4_1_c0
theorem P8_4_2_c0 : chkLf P8_4_2_0 (P8_4_2_run []) = true := by kernel_rfl
theorem P8_4_2_r : CoversL P8_4_2_run P8_4_2_d [] := P8_4_2_c0
theorem P8_5_0_c0 : chkLf P8_5_0_0 (P8_5_0_run []) = true := by kernel_rfl
theorem P8_5_0_r : CoversL P8_5_0_run P8_5_0_d [] := P8_5_0_c0
theorem P8_5_1_c0 : chkLf P8_5_1_0 (P8_5_1_run []) = true := by kernel_rfl
theorem P8_5_1_r : CoversL P8_5_1_run P8_5_1_d [] := P8_5_1_c0
theorem P8_5_2_c0 : chkLf P8_5_2_0 (P8_5_2_run []) = true := by kernel_rfl
theorem P8_5_2_r : CoversL P8_5_2_run P8_5_2_d [] := P8_5_2_c0
theorem P8_6_0_c0 : chkLf P8_6_0_0 (P8_6_0_run []) = true := by kernel_rfl
theorem P8_6_0_r : CoversL P8_6_0_run P8_6_0_d [] := P8_6_0_c0
theorem P8_6_1_c0 : chkLf P8_6_1_0 (P8_6_1_run []) = true := by kernel_rfl
theorem P8_6_1_r : CoversL P8_6_1_run P8_6_1_d [] := P8_6_1_c0
theorem P8_6_2_c0 : chkLf P8_6_2_0 (P8_6_2_run []) = true := by kernel_rfl
theorem P8_6_2_r : CoversL P8_6_2_run P8_6_2_d [] := P8_6_2_c0
theorem P8_7_0_c0 : chkLf P8_7_0_0 (P8_7_0_run []) = true := by kernel_rfl
theorem P8_7_0_r : CoversL P8_7_0_run P8_7_0_d [] := P8_7_0_c0
theorem P8_7_1_c0 : chkLf P8_7_1_0 (P8_7_1_run []) = true := by kernel_rfl
theorem P8_7_1_r : CoversL P8_7_1_run P8_7_1_d [] := P8_7_1_c0
theorem P8_7_2_c0 : chkLf P8_7_2_0 (P8_7_2_run []) = true := by kernel_rfl
theorem P8_7_2_r : CoversL P8_7_2_run P8_7_2_d [] := P8_7_2_c0
theorem Rooms8_c0 : chkLf Rooms8_0 (Rooms8_run []) = true := by kernel_rfl
theorem Rooms8_r : CoversL Rooms8_run Rooms8_d [] := Rooms8_c0
theorem Fixed8_c0 : chkLf Fixed8_0 (Fixed8_run []) = true := by kernel_rfl
theorem Fixed8_r : CoversL Fixed8_run Fixed8_d [] := Fixed8_c0
theorem Make8_c0 : chkLf Make8_0 (Make8_run []) = true := by kernel_rfl
theorem Make8_r : CoversL Make8_run Make8_d [] := Make8_c0
theorem Fixed9_c0 : chkLf Fixed9_0 (Fixed9_run []) = true := by kernel_rfl
theorem Fixed9_r : CoversL Fixed9_run Fixed9_d [] := Fixed9_c0
end Go.Vm.Hr
