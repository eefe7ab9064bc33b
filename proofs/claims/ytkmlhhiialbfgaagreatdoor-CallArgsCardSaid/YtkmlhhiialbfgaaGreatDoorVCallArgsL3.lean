/- The law CallArgs: runs. -/
import Derived.Test.YtkmlhhiialbfgaaGreatDoorVCallArgsB
set_option linter.unusedVariables false
set_option linter.unusedSimpArgs false
namespace Go.Vm.VCallArgs
open Go.Vm
theorem l4_4 : run_4 [(e4, true), (e3, false), (e2, false), (e1, false), (e0, false)] = some (.c true) := by kernel_rfl
theorem l4_5 : run_4 [(e5, true), (e4, false), (e3, false), (e2, false), (e1, false), (e0, false)] = some (.c true) := by kernel_rfl
theorem l4_6 : run_4 [(e6, true), (e5, false), (e4, false), (e3, false), (e2, false), (e1, false), (e0, false)] = some (.c true) := by kernel_rfl
theorem l4_7 : run_4 [(e7, true), (e6, false), (e5, false), (e4, false), (e3, false), (e2, false), (e1, false), (e0, false)] = some (.c true) := by kernel_rfl
theorem l4_8 : run_4 [(e8, true), (e7, false), (e6, false), (e5, false), (e4, false), (e3, false), (e2, false), (e1, false), (e0, false)] = some (.c true) := by kernel_rfl
theorem l4_9 : run_4 [(e9, true), (e8, false), (e7, false), (e6, false), (e5, false), (e4, false), (e3, false), (e2, false), (e1, false), (e0, false)] = some (.c true) := by kernel_rfl
theorem l5_0 : run_5 [(e0, true)] = some (.c true) := by kernel_rfl
theorem l5_1 : run_5 [(e1, true), (e0, false)] = some (.c true) := by kernel_rfl
theorem l5_2 : run_5 [(e2, true), (e1, false), (e0, false)] = some (.c true) := by kernel_rfl
theorem l5_3 : run_5 [(e3, true), (e2, false), (e1, false), (e0, false)] = some (.c true) := by kernel_rfl
theorem l5_4 : run_5 [(e4, true), (e3, false), (e2, false), (e1, false), (e0, false)] = some (.c true) := by kernel_rfl
theorem l5_5 : run_5 [(e5, true), (e4, false), (e3, false), (e2, false), (e1, false), (e0, false)] = some (.c true) := by kernel_rfl
theorem l5_6 : run_5 [(e6, true), (e5, false), (e4, false), (e3, false), (e2, false), (e1, false), (e0, false)] = some (.c true) := by kernel_rfl
theorem l5_7 : run_5 [(e7, true), (e6, false), (e5, false), (e4, false), (e3, false), (e2, false), (e1, false), (e0, false)] = some (.c true) := by kernel_rfl
theorem l5_8 : run_5 [(e8, true), (e7, false), (e6, false), (e5, false), (e4, false), (e3, false), (e2, false), (e1, false), (e0, false)] = some (.c true) := by kernel_rfl
theorem l5_9 : run_5 [(e9, true), (e8, false), (e7, false), (e6, false), (e5, false), (e4, false), (e3, false), (e2, false), (e1, false), (e0, false)] = some (.c true) := by kernel_rfl
theorem l6_0 : run_6 [(e0, true)] = some (.c true) := by kernel_rfl
end Go.Vm.VCallArgs
