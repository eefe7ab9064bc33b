/- The law HouseRooms: runs. -/
import Derived.Test.YtlaeoahhfalkiaaGreatDoorHrD
import Derived.KernelRfl
set_option linter.unusedVariables false
set_option maxRecDepth 100000
set_option maxHeartbeats 0
namespace Go.Vm.Hr
open Go.Vm Go.Proofs
theorem New_c0 : chkLf New_0 (New_run []) = true := by kernel_rfl
theorem New_r : CoversL New_run New_d [] := New_c0
theorem Rooms0_c0 : chkLf Rooms0_0 (Rooms0_run []) = true := by kernel_rfl
theorem Rooms0_r : CoversL Rooms0_run Rooms0_d [] := Rooms0_c0
theorem Fixed0_c0 : chkLf Fixed0_0 (Fixed0_run []) = true := by kernel_rfl
theorem Fixed0_r : CoversL Fixed0_run Fixed0_d [] := Fixed0_c0
theorem Make0_c0 : chkLf Make0_0 (Make0_run []) = true := by kernel_rfl
theorem Make0_r : CoversL Make0_run Make0_d [] := Make0_c0
theorem Inv0_c0 : chkLf Inv0_0 (Inv0_run []) = true := by kernel_rfl
theorem Inv0_r : CoversL Inv0_run Inv0_d [] := Inv0_c0
theorem P1_0_0_c0 : chkLf P1_0_0_0 (P1_0_0_run []) = true := by kernel_rfl
theorem P1_0_0_r : CoversL P1_0_0_run P1_0_0_d [] := P1_0_0_c0
theorem P1_0_1_c0 : chkLf P1_0_1_0 (P1_0_1_run []) = true := by kernel_rfl
theorem P1_0_1_r : CoversL P1_0_1_run P1_0_1_d [] := P1_0_1_c0
theorem P1_0_2_c0 : chkLf P1_0_2_0 (P1_0_2_run []) = true := by kernel_rfl
theorem P1_0_2_r : CoversL P1_0_2_run P1_0_2_d [] := P1_0_2_c0
theorem Rooms1_c0 : chkLf Rooms1_0 (Rooms1_run []) = true := by kernel_rfl
theorem Rooms1_r : CoversL Rooms1_run Rooms1_d [] := Rooms1_c0
theorem Fixed1_c0 : chkLf Fixed1_0 (Fixed1_run []) = true := by kernel_rfl
theorem Fixed1_r : CoversL Fixed1_run Fixed1_d [] := Fixed1_c0
theorem Make1_c0 : chkLf Make1_0 (Make1_run []) = true := by kernel_rfl
theorem Make1_r : CoversL Make1_run Make1_d [] := Make1_c0
theorem Inv1_c0 : chkLf Inv1_0 (Inv1_run []) = true := by kernel_rfl
theorem Inv1_r : CoversL Inv1_run Inv1_d [] := Inv1_c0
theorem P2_0_0_c0 : chkLf P2_0_0_0 (P2_0_0_run []) = true := by kernel_rfl
theorem P2_0_0_r : CoversL P2_0_0_run P2_0_0_d [] := P2_0_0_c0
theorem P2_0_1_c0 : chkLf P2_0_1_0 (P2_0_1_run []) = true := by kernel_rfl
theorem P2_0_1_r : CoversL P2_0_1_run P2_0_1_d [] := P2_0_1_c0
theorem P2_0_2_c0 : chkLf P2_0_2_0 (P2_0_2_run []) = true := by kernel_rfl
theorem P2_0_2_r : CoversL P2_0_2_run P2_0_2_d [] := P2_0_2_c0
theorem P2_1_0_c0 : chkLf P2_1_0_0 (P2_1_0_run []) = true := by kernel_rfl
theorem P2_1_0_r : CoversL P2_1_0_run P2_1_0_d [] := P2_1_0_c0
theorem P2_1_1_c0 : chkLf P2_1_1_0 (P2_1_1_run []) = true := by kernel_rfl
theorem P2_1_1_r : CoversL P2_1_1_run P2_1_1_d [] := P2_1_1_c0
theorem P2_1_2_c0 : chkLf P2_1_2_0 (P2_1_2_run []) = true := by kernel_rfl
theorem P2_1_2_r : CoversL P2_1_2_run P2_1_2_d [] := P2_1_2_c0
theorem Rooms2_c0 : chkLf Rooms2_0 (Rooms2_run []) = true := by kernel_rfl
theorem Rooms2_r : CoversL Rooms2_run Rooms2_d [] := Rooms2_c0
theorem Fixed2_c0 : chkLf Fixed2_0 (Fixed2_run []) = true := by kernel_rfl
theorem Fixed2_r : CoversL Fixed2_run Fixed2_d [] := Fixed2_c0
theorem Make2_c0 : chkLf Make2_0 (Make2_run []) = true := by kernel_rfl
theorem Make2_r : CoversL Make2_run Make2_d [] := Make2_c0
theorem Inv2_c0 : chkLf Inv2_0 (Inv2_run []) = true := by kernel_rfl
theorem Inv2_r : CoversL Inv2_run Inv2_d [] := Inv2_c0
theorem P3_0_0_c0 : chkLf P3_0_0_0 (P3_0_0_run []) = true := by kernel_rfl
theorem P3_0_0_r : CoversL P3_0_0_run P3_0_0_d [] := P3_0_0_c0
theorem P3_0_1_c0 : chkLf P3_0_1_0 (P3_0_1_run []) = true := by kernel_rfl
theorem P3_0_1_r : CoversL P3_0_1_run P3_0_1_d [] := P3_0_1_c0
theorem P3_0_2_c0 : chkLf P3_0_2_0 (P3_0_2_run []) = true := by kernel_rfl
theorem P3_0_2_r : CoversL P3_0_2_run P3_0_2_d [] := P3_0_2_c0
theorem P3_1_0_c0 : chkLf P3_1_0_0 (P3_1_0_run []) = true := by kernel_rfl
theorem P3_1_0_r : CoversL P3_1_0_run P3_1_0_d [] := P3_1_0_c0
theorem P3_1_1_c0 : chkLf P3_1_1_0 (P3_1_1_run []) = true := by kernel_rfl
theorem P3_1_1_r : CoversL P3_1_1_run P3_1_1_d [] := P3_1_1_c0
theorem P3_1_2_c0 : chkLf P3_1_2_0 (P3_1_2_run []) = true := by kernel_rfl
theorem P3_1_2_r : CoversL P3_1_2_run P3_1_2_d [] := P3_1_2_c0
theorem P3_2_0_c0 : chkLf P3_2_0_0 (P3_2_0_run []) = true := by kernel_rfl
theorem P3_2_0_r : CoversL P3_2_0_run P3_2_0_d [] := P3_2_0_c0
theorem P3_2_1_c0 : chkLf P3_2_1_0 (P3_2_1_run []) = true := by kernel_rfl
theorem P3_2_1_r : CoversL P3_2_1_run P3_2_1_d [] := P3_2_1_c0
theorem P3_2_2_c0 : chkLf P3_2_2_0 (P3_2_2_run []) = true := by kernel_rfl
theorem P3_2_2_r : CoversL P3_2_2_run P3_2_2_d [] := P3_2_2_c0
theorem Rooms3_c0 : chkLf Rooms3_0 (Rooms3_run []) = true := by kernel_rfl
theorem Rooms3_r : CoversL Rooms3_run Rooms3_d [] := Rooms3_c0
theorem Fixed3_c0 : chkLf Fixed3_0 (Fixed3_run []) = true := by kernel_rfl
theorem Fixed3_r : CoversL Fixed3_run Fixed3_d [] := Fixed3_c0
theorem Make3_c0 : chkLf Make3_0 (Make3_run []) = true := by kernel_rfl
theorem Make3_r : CoversL Make3_run Make3_d [] := Make3_c0
theorem Inv3_c0 : chkLf Inv3_0 (Inv3_run []) = true := by kernel_rfl
theorem Inv3_r : CoversL Inv3_run Inv3_d [] := Inv3_c0
theorem P4_0_0_c0 : chkLf P4_0_0_0 (P4_0_0_run []) = true := by kernel_rfl
theorem P4_0_0_r : CoversL P4_0_0_run P4_0_0_d [] := P4_0_0_c0
end Go.Vm.Hr
