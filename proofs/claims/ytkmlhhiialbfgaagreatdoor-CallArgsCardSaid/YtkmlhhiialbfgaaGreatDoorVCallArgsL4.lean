/- The law CallArgs: runs. -/
import Derived.Test.YtkmlhhiialbfgaaGreatDoorVCallArgsB
set_option linter.unusedVariables false
set_option linter.unusedSimpArgs false
namespace Go.Vm.VCallArgs
open Go.Vm
theorem l6_1 : run_6 [(e1, true), (e0, false)] = some (.c true) := by kernel_rfl
theorem l6_2 : run_6 [(e2, true), (e1, false), (e0, false)] = some (.c true) := by kernel_rfl
theorem l6_3 : run_6 [(e3, true), (e2, false), (e1, false), (e0, false)] = some (.c true) := by kernel_rfl
theorem l6_4 : run_6 [(e4, true), (e3, false), (e2, false), (e1, false), (e0, false)] = some (.c true) := by kernel_rfl
theorem l6_5 : run_6 [(e5, true), (e4, false), (e3, false), (e2, false), (e1, false), (e0, false)] = some (.c true) := by kernel_rfl
theorem l6_6 : run_6 [(e6, true), (e5, false), (e4, false), (e3, false), (e2, false), (e1, false), (e0, false)] = some (.c true) := by kernel_rfl
theorem l6_7 : run_6 [(e7, true), (e6, false), (e5, false), (e4, false), (e3, false), (e2, false), (e1, false), (e0, false)] = some (.c true) := by kernel_rfl
theorem l6_8 : run_6 [(e8, true), (e7, false), (e6, false), (e5, false), (e4, false), (e3, false), (e2, false), (e1, false), (e0, false)] = some (.c true) := by kernel_rfl
theorem l6_9 : run_6 [(e9, true), (e8, false), (e7, false), (e6, false), (e5, false), (e4, false), (e3, false), (e2, false), (e1, false), (e0, false)] = some (.c true) := by kernel_rfl
theorem lnil_0 : run_nil [(e0, true)] = some (.c true) := by kernel_rfl
theorem lnil_1 : run_nil [(e1, true), (e0, false)] = some (.c true) := by kernel_rfl
theorem lnil_2 : run_nil [(e2, true), (e1, false), (e0, false)] = some (.c true) := by kernel_rfl
theorem lnil_3 : run_nil [(e3, true), (e2, false), (e1, false), (e0, false)] = some (.c true) := by kernel_rfl
theorem lnil_4 : run_nil [(e4, true), (e3, false), (e2, false), (e1, false), (e0, false)] = some (.c true) := by kernel_rfl
theorem lnil_5 : run_nil [(e5, true), (e4, false), (e3, false), (e2, false), (e1, false), (e0, false)] = some (.c true) := by kernel_rfl
theorem lnil_6 : run_nil [(e6, true), (e5, false), (e4, false), (e3, false), (e2, false), (e1, false), (e0, false)] = some (.c true) := by kernel_rfl
end Go.Vm.VCallArgs
