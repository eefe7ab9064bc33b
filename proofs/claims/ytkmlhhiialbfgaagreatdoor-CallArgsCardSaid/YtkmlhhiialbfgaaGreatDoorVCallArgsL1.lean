/- The law CallArgs: runs. -/
import Derived.Test.YtkmlhhiialbfgaaGreatDoorVCallArgsB
set_option linter.unusedVariables false
set_option linter.unusedSimpArgs false
namespace Go.Vm.VCallArgs
open Go.Vm
theorem l1_6 : run_1 [(e10, true), (e5, true), (e4, false), (e3, false), (e2, false), (e1, false), (e0, false)] = some (.c true) := by kernel_rfl
theorem l1_7 : run_1 [(e10, false), (e5, true), (e4, false), (e3, false), (e2, false), (e1, false), (e0, false)] = some (.c true) := by kernel_rfl
theorem l1_8 : run_1 [(e10, true), (e6, true), (e5, false), (e4, false), (e3, false), (e2, false), (e1, false), (e0, false)] = some (.c true) := by kernel_rfl
theorem l1_9 : run_1 [(e10, false), (e6, true), (e5, false), (e4, false), (e3, false), (e2, false), (e1, false), (e0, false)] = some (.c true) := by kernel_rfl
theorem l1_10 : run_1 [(e7, true), (e6, false), (e5, false), (e4, false), (e3, false), (e2, false), (e1, false), (e0, false)] = some (.c true) := by kernel_rfl
theorem l1_11 : run_1 [(e8, true), (e7, false), (e6, false), (e5, false), (e4, false), (e3, false), (e2, false), (e1, false), (e0, false)] = some (.c true) := by kernel_rfl
theorem l1_12 : run_1 [(e9, true), (e8, false), (e7, false), (e6, false), (e5, false), (e4, false), (e3, false), (e2, false), (e1, false), (e0, false)] = some (.c true) := by kernel_rfl
theorem l2_0 : run_2 [(e0, true)] = some (.c true) := by kernel_rfl
theorem l2_1 : run_2 [(e1, true), (e0, false)] = some (.c true) := by kernel_rfl
theorem l2_2 : run_2 [(e2, true), (e1, false), (e0, false)] = some (.c true) := by kernel_rfl
theorem l2_3 : run_2 [(e3, true), (e2, false), (e1, false), (e0, false)] = some (.c true) := by kernel_rfl
theorem l2_4 : run_2 [(e10, true), (e4, true), (e3, false), (e2, false), (e1, false), (e0, false)] = some (.c true) := by kernel_rfl
theorem l2_5 : run_2 [(e11, true), (e10, false), (e4, true), (e3, false), (e2, false), (e1, false), (e0, false)] = some (.c true) := by kernel_rfl
theorem l2_6 : run_2 [(e11, false), (e10, false), (e4, true), (e3, false), (e2, false), (e1, false), (e0, false)] = some (.c true) := by kernel_rfl
theorem l2_7 : run_2 [(e5, true), (e4, false), (e3, false), (e2, false), (e1, false), (e0, false)] = some (.c true) := by kernel_rfl
theorem l2_8 : run_2 [(e6, true), (e5, false), (e4, false), (e3, false), (e2, false), (e1, false), (e0, false)] = some (.c true) := by kernel_rfl
end Go.Vm.VCallArgs
