/- The law CallArgs: runs. -/
import Derived.Test.YtkmlhhiialbfgaaGreatDoorVCallArgsB
set_option linter.unusedVariables false
set_option linter.unusedSimpArgs false
namespace Go.Vm.VCallArgs
open Go.Vm
theorem l2_9 : run_2 [(e7, true), (e6, false), (e5, false), (e4, false), (e3, false), (e2, false), (e1, false), (e0, false)] = some (.c true) := by kernel_rfl
theorem l2_10 : run_2 [(e8, true), (e7, false), (e6, false), (e5, false), (e4, false), (e3, false), (e2, false), (e1, false), (e0, false)] = some (.c true) := by kernel_rfl
theorem l2_11 : run_2 [(e9, true), (e8, false), (e7, false), (e6, false), (e5, false), (e4, false), (e3, false), (e2, false), (e1, false), (e0, false)] = some (.c true) := by kernel_rfl
theorem l3_0 : run_3 [(e0, true)] = some (.c true) := by kernel_rfl
theorem l3_1 : run_3 [(e1, true), (e0, false)] = some (.c true) := by kernel_rfl
theorem l3_2 : run_3 [(e2, true), (e1, false), (e0, false)] = some (.c true) := by kernel_rfl
theorem l3_3 : run_3 [(e3, true), (e2, false), (e1, false), (e0, false)] = some (.c true) := by kernel_rfl
theorem l3_4 : run_3 [(e4, true), (e3, false), (e2, false), (e1, false), (e0, false)] = some (.c true) := by kernel_rfl
theorem l3_5 : run_3 [(e5, true), (e4, false), (e3, false), (e2, false), (e1, false), (e0, false)] = some (.c true) := by kernel_rfl
theorem l3_6 : run_3 [(e6, true), (e5, false), (e4, false), (e3, false), (e2, false), (e1, false), (e0, false)] = some (.c true) := by kernel_rfl
theorem l3_7 : run_3 [(e7, true), (e6, false), (e5, false), (e4, false), (e3, false), (e2, false), (e1, false), (e0, false)] = some (.c true) := by kernel_rfl
theorem l3_8 : run_3 [(e8, true), (e7, false), (e6, false), (e5, false), (e4, false), (e3, false), (e2, false), (e1, false), (e0, false)] = some (.c true) := by kernel_rfl
theorem l3_9 : run_3 [(e9, true), (e8, false), (e7, false), (e6, false), (e5, false), (e4, false), (e3, false), (e2, false), (e1, false), (e0, false)] = some (.c true) := by kernel_rfl
theorem l4_0 : run_4 [(e0, true)] = some (.c true) := by kernel_rfl
theorem l4_1 : run_4 [(e1, true), (e0, false)] = some (.c true) := by kernel_rfl
theorem l4_2 : run_4 [(e2, true), (e1, false), (e0, false)] = some (.c true) := by kernel_rfl
theorem l4_3 : run_4 [(e3, true), (e2, false), (e1, false), (e0, false)] = some (.c true) := by kernel_rfl
end Go.Vm.VCallArgs
