/- The law HouseOrder: runs. -/
import Derived.Test.YtlaeoahhfalkiaaGreatDoorHoB
import Derived.KernelRfl
set_option linter.unusedVariables false
set_option maxRecDepth 100000
set_option maxHeartbeats 0
namespace Go.Vm.Ho
open Go.Vm Go.Proofs
theorem P4_20_c0 : chkLf P4_20_0 (P4_20_run [((.lt (.c (.ofNat 3)) (.bin .min .i64 (.v 4) (.c (.ofNat 19998)))), true), ((.lt (.c (.ofNat 2)) (.bin .min .i64 (.v 4) (.c (.ofNat 19998)))), true), ((.lt (.c (.ofNat 1)) (.bin .min .i64 (.v 4) (.c (.ofNat 19998)))), true), ((.lt (.c (.ofNat 0)) (.bin .min .i64 (.v 4) (.c (.ofNat 19998)))), true)]) = true := by kernel_rfl
theorem P4_20_c1 : chkLf P4_20_1 (P4_20_run [((.lt (.c (.ofNat 3)) (.bin .min .i64 (.v 4) (.c (.ofNat 19998)))), false), ((.lt (.c (.ofNat 2)) (.bin .min .i64 (.v 4) (.c (.ofNat 19998)))), true), ((.lt (.c (.ofNat 1)) (.bin .min .i64 (.v 4) (.c (.ofNat 19998)))), true), ((.lt (.c (.ofNat 0)) (.bin .min .i64 (.v 4) (.c (.ofNat 19998)))), true)]) = true := by kernel_rfl
theorem P4_20_c2 : chkLf P4_20_2 (P4_20_run [((.lt (.c (.ofNat 2)) (.bin .min .i64 (.v 4) (.c (.ofNat 19998)))), false), ((.lt (.c (.ofNat 1)) (.bin .min .i64 (.v 4) (.c (.ofNat 19998)))), true), ((.lt (.c (.ofNat 0)) (.bin .min .i64 (.v 4) (.c (.ofNat 19998)))), true)]) = true := by kernel_rfl
theorem P4_20_c3 : chkLf P4_20_3 (P4_20_run [((.lt (.c (.ofNat 1)) (.bin .min .i64 (.v 4) (.c (.ofNat 19998)))), false), ((.lt (.c (.ofNat 0)) (.bin .min .i64 (.v 4) (.c (.ofNat 19998)))), true)]) = true := by kernel_rfl
theorem P4_20_c4 : chkLf P4_20_4 (P4_20_run [((.lt (.c (.ofNat 0)) (.bin .min .i64 (.v 4) (.c (.ofNat 19998)))), false)]) = true := by kernel_rfl
theorem P4_20_r : CoversL P4_20_run P4_20_d [] := ⟨⟨⟨⟨P4_20_c0, P4_20_c1⟩, P4_20_c2⟩, P4_20_c3⟩, P4_20_c4⟩
theorem P4_21_c0 : chkLf P4_21_0 (P4_21_run [((.lt (.c (.ofNat 2)) (.bin .min .i64 (.v 4) (.c (.ofNat 19997)))), true), ((.lt (.c (.ofNat 1)) (.bin .min .i64 (.v 4) (.c (.ofNat 19997)))), true), ((.lt (.c (.ofNat 0)) (.bin .min .i64 (.v 4) (.c (.ofNat 19997)))), true)]) = true := by kernel_rfl
theorem P4_21_c1 : chkLf P4_21_1 (P4_21_run [((.lt (.c (.ofNat 2)) (.bin .min .i64 (.v 4) (.c (.ofNat 19997)))), false), ((.lt (.c (.ofNat 1)) (.bin .min .i64 (.v 4) (.c (.ofNat 19997)))), true), ((.lt (.c (.ofNat 0)) (.bin .min .i64 (.v 4) (.c (.ofNat 19997)))), true)]) = true := by kernel_rfl
theorem P4_21_c2 : chkLf P4_21_2 (P4_21_run [((.lt (.c (.ofNat 1)) (.bin .min .i64 (.v 4) (.c (.ofNat 19997)))), false), ((.lt (.c (.ofNat 0)) (.bin .min .i64 (.v 4) (.c (.ofNat 19997)))), true)]) = true := by kernel_rfl
theorem P4_21_c3 : chkLf P4_21_3 (P4_21_run [((.lt (.c (.ofNat 0)) (.bin .min .i64 (.v 4) (.c (.ofNat 19997)))), false)]) = true := by kernel_rfl
theorem P4_21_r : CoversL P4_21_run P4_21_d [] := ⟨⟨⟨P4_21_c0, P4_21_c1⟩, P4_21_c2⟩, P4_21_c3⟩
theorem P4_22_c0 : chkLf P4_22_0 (P4_22_run [((.lt (.c (.ofNat 1)) (.bin .min .i64 (.v 4) (.c (.ofNat 19996)))), true), ((.lt (.c (.ofNat 0)) (.bin .min .i64 (.v 4) (.c (.ofNat 19996)))), true)]) = true := by kernel_rfl
theorem P4_22_c1 : chkLf P4_22_1 (P4_22_run [((.lt (.c (.ofNat 1)) (.bin .min .i64 (.v 4) (.c (.ofNat 19996)))), false), ((.lt (.c (.ofNat 0)) (.bin .min .i64 (.v 4) (.c (.ofNat 19996)))), true)]) = true := by kernel_rfl
theorem P4_22_c2 : chkLf P4_22_2 (P4_22_run [((.lt (.c (.ofNat 0)) (.bin .min .i64 (.v 4) (.c (.ofNat 19996)))), false)]) = true := by kernel_rfl
theorem P4_22_r : CoversL P4_22_run P4_22_d [] := ⟨⟨P4_22_c0, P4_22_c1⟩, P4_22_c2⟩
theorem P4_23_c0 : chkLf P4_23_0 (P4_23_run [((.lt (.c (.ofNat 0)) (.bin .min .i64 (.v 4) (.c (.ofNat 19995)))), true)]) = true := by kernel_rfl
theorem P4_23_c1 : chkLf P4_23_1 (P4_23_run [((.lt (.c (.ofNat 0)) (.bin .min .i64 (.v 4) (.c (.ofNat 19995)))), false)]) = true := by kernel_rfl
theorem P4_23_r : CoversL P4_23_run P4_23_d [] := ⟨P4_23_c0, P4_23_c1⟩
end Go.Vm.Ho
