/- The law StepTables: runs. -/
import Derived.Test.YtjbfdmhldofeiaaGreatDoorVStepTablesB
set_option linter.unusedVariables false
set_option linter.unusedSimpArgs false
namespace Go.Vm.VStepTables
open Go.Vm
theorem l15 : run [(e1, true), (e13, true), (e10, false), (e7, false), (e0, false)] = some (.c true) := by kernel_rfl
theorem l16 : run [(e2, true), (e1, false), (e13, true), (e10, false), (e7, false), (e0, false)] = some (.c true) := by kernel_rfl
theorem l17 : run [(e3, true), (e2, false), (e1, false), (e13, true), (e10, false), (e7, false), (e0, false)] = some (.c true) := by kernel_rfl
theorem l18 : run [(e4, true), (e3, false), (e2, false), (e1, false), (e13, true), (e10, false), (e7, false), (e0, false)] = some (.c true) := by kernel_rfl
theorem l19 : run [(e15, false), (e14, false), (e4, false), (e3, false), (e2, false), (e1, false), (e13, true), (e10, false), (e7, false), (e0, false)] = some (.c true) := by kernel_rfl
theorem l20 : run [(e1, true), (e16, true), (e13, false), (e10, false), (e7, false), (e0, false)] = some (.c true) := by kernel_rfl
theorem l21 : run [(e2, true), (e1, false), (e16, true), (e13, false), (e10, false), (e7, false), (e0, false)] = some (.c true) := by kernel_rfl
theorem l22 : run [(e3, true), (e2, false), (e1, false), (e16, true), (e13, false), (e10, false), (e7, false), (e0, false)] = some (.c true) := by kernel_rfl
theorem l23 : run [(e4, true), (e3, false), (e2, false), (e1, false), (e16, true), (e13, false), (e10, false), (e7, false), (e0, false)] = some (.c true) := by kernel_rfl
theorem l24 : run [(e18, false), (e17, false), (e4, false), (e3, false), (e2, false), (e1, false), (e16, true), (e13, false), (e10, false), (e7, false), (e0, false)] = some (.c true) := by kernel_rfl
end Go.Vm.VStepTables
