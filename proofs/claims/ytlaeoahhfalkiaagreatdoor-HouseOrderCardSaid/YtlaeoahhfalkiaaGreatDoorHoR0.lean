/- The law HouseOrder: runs. -/
import Derived.Test.YtlaeoahhfalkiaaGreatDoorHoB
import Derived.KernelRfl
set_option linter.unusedVariables false
set_option maxRecDepth 100000
set_option maxHeartbeats 0
namespace Go.Vm.Ho
open Go.Vm Go.Proofs
theorem New_c0 : chkLf New_0 (New_run []) = true := by kernel_rfl
theorem New_r : CoversL New_run New_d [] := New_c0
theorem Fixed_c0 : chkLf Fixed_0 (Fixed_run []) = true := by kernel_rfl
theorem Fixed_r : CoversL Fixed_run Fixed_d [] := Fixed_c0
theorem Make_c0 : chkLf Make_0 (Make_run []) = true := by kernel_rfl
theorem Make_r : CoversL Make_run Make_d [] := Make_c0
theorem Inv0_c0 : chkLf Inv0_0 (Inv0_run [((.lt (.c (.ofNat 4294967295)) (.v 0)), false)]) = true := by kernel_rfl
theorem Inv0_r : CoversL Inv0_run Inv0_d [] := ⟨trivial, Inv0_c0⟩
theorem P1_0_c0 : chkLf P1_0_0 (P1_0_run [((.lt (.c (.ofNat 5)) (.bin .min .i64 (.v 4) (.c (.ofNat 20000)))), true), ((.lt (.c (.ofNat 4)) (.bin .min .i64 (.v 4) (.c (.ofNat 20000)))), true), ((.lt (.c (.ofNat 3)) (.bin .min .i64 (.v 4) (.c (.ofNat 20000)))), true), ((.lt (.c (.ofNat 2)) (.bin .min .i64 (.v 4) (.c (.ofNat 20000)))), true), ((.lt (.c (.ofNat 1)) (.bin .min .i64 (.v 4) (.c (.ofNat 20000)))), true), ((.lt (.c (.ofNat 0)) (.bin .min .i64 (.v 4) (.c (.ofNat 20000)))), true)]) = true := by kernel_rfl
theorem P1_0_c1 : chkLf P1_0_1 (P1_0_run [((.lt (.c (.ofNat 5)) (.bin .min .i64 (.v 4) (.c (.ofNat 20000)))), false), ((.lt (.c (.ofNat 4)) (.bin .min .i64 (.v 4) (.c (.ofNat 20000)))), true), ((.lt (.c (.ofNat 3)) (.bin .min .i64 (.v 4) (.c (.ofNat 20000)))), true), ((.lt (.c (.ofNat 2)) (.bin .min .i64 (.v 4) (.c (.ofNat 20000)))), true), ((.lt (.c (.ofNat 1)) (.bin .min .i64 (.v 4) (.c (.ofNat 20000)))), true), ((.lt (.c (.ofNat 0)) (.bin .min .i64 (.v 4) (.c (.ofNat 20000)))), true)]) = true := by kernel_rfl
theorem P1_0_c2 : chkLf P1_0_2 (P1_0_run [((.lt (.c (.ofNat 4)) (.bin .min .i64 (.v 4) (.c (.ofNat 20000)))), false), ((.lt (.c (.ofNat 3)) (.bin .min .i64 (.v 4) (.c (.ofNat 20000)))), true), ((.lt (.c (.ofNat 2)) (.bin .min .i64 (.v 4) (.c (.ofNat 20000)))), true), ((.lt (.c (.ofNat 1)) (.bin .min .i64 (.v 4) (.c (.ofNat 20000)))), true), ((.lt (.c (.ofNat 0)) (.bin .min .i64 (.v 4) (.c (.ofNat 20000)))), true)]) = true := by kernel_rfl
theorem P1_0_c3 : chkLf P1_0_3 (P1_0_run [((.lt (.c (.ofNat 3)) (.bin .min .i64 (.v 4) (.c (.ofNat 20000)))), false), ((.lt (.c (.ofNat 2)) (.bin .min .i64 (.v 4) (.c (.ofNat 20000)))), true), ((.lt (.c (.ofNat 1)) (.bin .min .i64 (.v 4) (.c (.ofNat 20000)))), true), ((.lt (.c (.ofNat 0)) (.bin .min .i64 (.v 4) (.c (.ofNat 20000)))), true)]) = true := by kernel_rfl
theorem P1_0_c4 : chkLf P1_0_4 (P1_0_run [((.lt (.c (.ofNat 2)) (.bin .min .i64 (.v 4) (.c (.ofNat 20000)))), false), ((.lt (.c (.ofNat 1)) (.bin .min .i64 (.v 4) (.c (.ofNat 20000)))), true), ((.lt (.c (.ofNat 0)) (.bin .min .i64 (.v 4) (.c (.ofNat 20000)))), true)]) = true := by kernel_rfl
theorem P1_0_c5 : chkLf P1_0_5 (P1_0_run [((.lt (.c (.ofNat 1)) (.bin .min .i64 (.v 4) (.c (.ofNat 20000)))), false), ((.lt (.c (.ofNat 0)) (.bin .min .i64 (.v 4) (.c (.ofNat 20000)))), true)]) = true := by kernel_rfl
theorem P1_0_c6 : chkLf P1_0_6 (P1_0_run [((.lt (.c (.ofNat 0)) (.bin .min .i64 (.v 4) (.c (.ofNat 20000)))), false)]) = true := by kernel_rfl
theorem P1_0_r : CoversL P1_0_run P1_0_d [] := ⟨⟨⟨⟨⟨⟨P1_0_c0, P1_0_c1⟩, P1_0_c2⟩, P1_0_c3⟩, P1_0_c4⟩, P1_0_c5⟩, P1_0_c6⟩
theorem P1_1_c0 : chkLf P1_1_0 (P1_1_run [((.lt (.c (.ofNat 4)) (.bin .min .i64 (.v 4) (.c (.ofNat 19999)))), true), ((.lt (.c (.ofNat 3)) (.bin .min .i64 (.v 4) (.c (.ofNat 19999)))), true), ((.lt (.c (.ofNat 2)) (.bin .min .i64 (.v 4) (.c (.ofNat 19999)))), true), ((.lt (.c (.ofNat 1)) (.bin .min .i64 (.v 4) (.c (.ofNat 19999)))), true), ((.lt (.c (.ofNat 0)) (.bin .min .i64 (.v 4) (.c (.ofNat 19999)))), true)]) = true := by kernel_rfl
theorem P1_1_c1 : chkLf P1_1_1 (P1_1_run [((.lt (.c (.ofNat 4)) (.bin .min .i64 (.v 4) (.c (.ofNat 19999)))), false), ((.lt (.c (.ofNat 3)) (.bin .min .i64 (.v 4) (.c (.ofNat 19999)))), true), ((.lt (.c (.ofNat 2)) (.bin .min .i64 (.v 4) (.c (.ofNat 19999)))), true), ((.lt (.c (.ofNat 1)) (.bin .min .i64 (.v 4) (.c (.ofNat 19999)))), true), ((.lt (.c (.ofNat 0)) (.bin .min .i64 (.v 4) (.c (.ofNat 19999)))), true)]) = true := by kernel_rfl
theorem P1_1_c2 : chkLf P1_1_2 (P1_1_run [((.lt (.c (.ofNat 3)) (.bin .min .i64 (.v 4) (.c (.ofNat 19999)))), false), ((.lt (.c (.ofNat 2)) (.bin .min .i64 (.v 4) (.c (.ofNat 19999)))), true), ((.lt (.c (.ofNat 1)) (.bin .min .i64 (.v 4) (.c (.ofNat 19999)))), true), ((.lt (.c (.ofNat 0)) (.bin .min .i64 (.v 4) (.c (.ofNat 19999)))), true)]) = true := by kernel_rfl
theorem P1_1_c3 : chkLf P1_1_3 (P1_1_run [((.lt (.c (.ofNat 2)) (.bin .min .i64 (.v 4) (.c (.ofNat 19999)))), false), ((.lt (.c (.ofNat 1)) (.bin .min .i64 (.v 4) (.c (.ofNat 19999)))), true), ((.lt (.c (.ofNat 0)) (.bin .min .i64 (.v 4) (.c (.ofNat 19999)))), true)]) = true := by kernel_rfl
theorem P1_1_c4 : chkLf P1_1_4 (P1_1_run [((.lt (.c (.ofNat 1)) (.bin .min .i64 (.v 4) (.c (.ofNat 19999)))), false), ((.lt (.c (.ofNat 0)) (.bin .min .i64 (.v 4) (.c (.ofNat 19999)))), true)]) = true := by kernel_rfl
theorem P1_1_c5 : chkLf P1_1_5 (P1_1_run [((.lt (.c (.ofNat 0)) (.bin .min .i64 (.v 4) (.c (.ofNat 19999)))), false)]) = true := by kernel_rfl
theorem P1_1_r : CoversL P1_1_run P1_1_d [] := ⟨⟨⟨⟨⟨P1_1_c0, P1_1_c1⟩, P1_1_c2⟩, P1_1_c3⟩, P1_1_c4⟩, P1_1_c5⟩
theorem P1_2_c0 : chkLf P1_2_0 (P1_2_run [((.lt (.c (.ofNat 3)) (.bin .min .i64 (.v 4) (.c (.ofNat 19998)))), true), ((.lt (.c (.ofNat 2)) (.bin .min .i64 (.v 4) (.c (.ofNat 19998)))), true), ((.lt (.c (.ofNat 1)) (.bin .min .i64 (.v 4) (.c (.ofNat 19998)))), true), ((.lt (.c (.ofNat 0)) (.bin .min .i64 (.v 4) (.c (.ofNat 19998)))), true)]) = true := by kernel_rfl
theorem P1_2_c1 : chkLf P1_2_1 (P1_2_run [((.lt (.c (.ofNat 3)) (.bin .min .i64 (.v 4) (.c (.ofNat 19998)))), false), ((.lt (.c (.ofNat 2)) (.bin .min .i64 (.v 4) (.c (.ofNat 19998)))), true), ((.lt (.c (.ofNat 1)) (.bin .min .i64 (.v 4) (.c (.ofNat 19998)))), true), ((.lt (.c (.ofNat 0)) (.bin .min .i64 (.v 4) (.c (.ofNat 19998)))), true)]) = true := by kernel_rfl
theorem P1_2_c2 : chkLf P1_2_2 (P1_2_run [((.lt (.c (.ofNat 2)) (.bin .min .i64 (.v 4) (.c (.ofNat 19998)))), false), ((.lt (.c (.ofNat 1)) (.bin .min .i64 (.v 4) (.c (.ofNat 19998)))), true), ((.lt (.c (.ofNat 0)) (.bin .min .i64 (.v 4) (.c (.ofNat 19998)))), true)]) = true := by kernel_rfl
theorem P1_2_c3 : chkLf P1_2_3 (P1_2_run [((.lt (.c (.ofNat 1)) (.bin .min .i64 (.v 4) (.c (.ofNat 19998)))), false), ((.lt (.c (.ofNat 0)) (.bin .min .i64 (.v 4) (.c (.ofNat 19998)))), true)]) = true := by kernel_rfl
theorem P1_2_c4 : chkLf P1_2_4 (P1_2_run [((.lt (.c (.ofNat 0)) (.bin .min .i64 (.v 4) (.c (.ofNat 19998)))), false)]) = true := by kernel_rfl
theorem P1_2_r : CoversL P1_2_run P1_2_d [] := ⟨⟨⟨⟨P1_2_c0, P1_2_c1⟩, P1_2_c2⟩, P1_2_c3⟩, P1_2_c4⟩
theorem P1_3_c0 : chkLf P1_3_0 (P1_3_run [((.lt (.c (.ofNat 2)) (.bin .min .i64 (.v 4) (.c (.ofNat 19997)))), true), ((.lt (.c (.ofNat 1)) (.bin .min .i64 (.v 4) (.c (.ofNat 19997)))), true), ((.lt (.c (.ofNat 0)) (.bin .min .i64 (.v 4) (.c (.ofNat 19997)))), true)]) = true := by kernel_rfl
theorem P1_3_c1 : chkLf P1_3_1 (P1_3_run [((.lt (.c (.ofNat 2)) (.bin .min .i64 (.v 4) (.c (.ofNat 19997)))), false), ((.lt (.c (.ofNat 1)) (.bin .min .i64 (.v 4) (.c (.ofNat 19997)))), true), ((.lt (.c (.ofNat 0)) (.bin .min .i64 (.v 4) (.c (.ofNat 19997)))), true)]) = true := by kernel_rfl
theorem P1_3_c2 : chkLf P1_3_2 (P1_3_run [((.lt (.c (.ofNat 1)) (.bin .min .i64 (.v 4) (.c (.ofNat 19997)))), false), ((.lt (.c (.ofNat 0)) (.bin .min .i64 (.v 4) (.c (.ofNat 19997)))), true)]) = true := by kernel_rfl
theorem P1_3_c3 : chkLf P1_3_3 (P1_3_run [((.lt (.c (.ofNat 0)) (.bin .min .i64 (.v 4) (.c (.ofNat 19997)))), false)]) = true := by kernel_rfl
theorem P1_3_r : CoversL P1_3_run P1_3_d [] := ⟨⟨⟨P1_3_c0, P1_3_c1⟩, P1_3_c2⟩, P1_3_c3⟩
theorem P1_4_c0 : chkLf P1_4_0 (P1_4_run [((.lt (.c (.ofNat 1)) (.bin .min .i64 (.v 4) (.c (.ofNat 19996)))), true), ((.lt (.c (.ofNat 0)) (.bin .min .i64 (.v 4) (.c (.ofNat 19996)))), true)]) = true := by kernel_rfl
theorem P1_4_c1 : chkLf P1_4_1 (P1_4_run [((.lt (.c (.ofNat 1)) (.bin .min .i64 (.v 4) (.c (.ofNat 19996)))), false), ((.lt (.c (.ofNat 0)) (.bin .min .i64 (.v 4) (.c (.ofNat 19996)))), true)]) = true := by kernel_rfl
theorem P1_4_c2 : chkLf P1_4_2 (P1_4_run [((.lt (.c (.ofNat 0)) (.bin .min .i64 (.v 4) (.c (.ofNat 19996)))), false)]) = true := by kernel_rfl
theorem P1_4_r : CoversL P1_4_run P1_4_d [] := ⟨⟨P1_4_c0, P1_4_c1⟩, P1_4_c2⟩
end Go.Vm.Ho
