/- The law CallArgs: runs. -/
import Derived.Test.YtkmlhhiialbfgaaGreatDoorVCallArgsB
set_option linter.unusedVariables false
set_option linter.unusedSimpArgs false
namespace Go.Vm.VCallArgs
open Go.Vm
theorem big (m : Nat) : run_big m [] = some (.c true) := by kernel_rfl
theorem l0_0 : run_0 [(e0, true)] = some (.c true) := by kernel_rfl
theorem l0_1 : run_0 [(e1, true), (e0, false)] = some (.c true) := by kernel_rfl
theorem l0_2 : run_0 [(e2, true), (e1, false), (e0, false)] = some (.c true) := by kernel_rfl
theorem l0_3 : run_0 [(e3, true), (e2, false), (e1, false), (e0, false)] = some (.c true) := by kernel_rfl
theorem l0_4 : run_0 [(e4, true), (e3, false), (e2, false), (e1, false), (e0, false)] = some (.c true) := by kernel_rfl
theorem l0_5 : run_0 [(e5, true), (e4, false), (e3, false), (e2, false), (e1, false), (e0, false)] = some (.c true) := by kernel_rfl
theorem l0_6 : run_0 [(e6, true), (e5, false), (e4, false), (e3, false), (e2, false), (e1, false), (e0, false)] = some (.c true) := by kernel_rfl
theorem l0_7 : run_0 [(e7, true), (e6, false), (e5, false), (e4, false), (e3, false), (e2, false), (e1, false), (e0, false)] = some (.c true) := by kernel_rfl
theorem l0_8 : run_0 [(e8, true), (e7, false), (e6, false), (e5, false), (e4, false), (e3, false), (e2, false), (e1, false), (e0, false)] = some (.c true) := by kernel_rfl
theorem l0_9 : run_0 [(e9, true), (e8, false), (e7, false), (e6, false), (e5, false), (e4, false), (e3, false), (e2, false), (e1, false), (e0, false)] = some (.c true) := by kernel_rfl
theorem l1_0 : run_1 [(e10, true), (e0, true)] = some (.c true) := by kernel_rfl
theorem l1_1 : run_1 [(e10, false), (e0, true)] = some (.c true) := by kernel_rfl
theorem l1_2 : run_1 [(e1, true), (e0, false)] = some (.c true) := by kernel_rfl
theorem l1_3 : run_1 [(e2, true), (e1, false), (e0, false)] = some (.c true) := by kernel_rfl
theorem l1_4 : run_1 [(e3, true), (e2, false), (e1, false), (e0, false)] = some (.c true) := by kernel_rfl
theorem l1_5 : run_1 [(e4, true), (e3, false), (e2, false), (e1, false), (e0, false)] = some (.c true) := by kernel_rfl
end Go.Vm.VCallArgs
