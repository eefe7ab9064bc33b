/- The law StepTables: runs. -/
import Derived.Test.YtjbfdmhldofeiaaGreatDoorVStepTablesB
set_option linter.unusedVariables false
set_option linter.unusedSimpArgs false
namespace Go.Vm.VStepTables
open Go.Vm
theorem l0 : run [(e1, true), (e0, true)] = some (.c true) := by kernel_rfl
theorem l1 : run [(e2, true), (e1, false), (e0, true)] = some (.c true) := by kernel_rfl
theorem l2 : run [(e3, true), (e2, false), (e1, false), (e0, true)] = some (.c true) := by kernel_rfl
theorem l3 : run [(e4, true), (e3, false), (e2, false), (e1, false), (e0, true)] = some (.c true) := by kernel_rfl
theorem l4 : run [(e6, false), (e5, false), (e4, false), (e3, false), (e2, false), (e1, false), (e0, true)] = some (.c true) := by kernel_rfl
theorem l5 : run [(e1, true), (e7, true), (e0, false)] = some (.c true) := by kernel_rfl
theorem l6 : run [(e2, true), (e1, false), (e7, true), (e0, false)] = some (.c true) := by kernel_rfl
theorem l7 : run [(e3, true), (e2, false), (e1, false), (e7, true), (e0, false)] = some (.c true) := by kernel_rfl
theorem l8 : run [(e4, true), (e3, false), (e2, false), (e1, false), (e7, true), (e0, false)] = some (.c true) := by kernel_rfl
theorem l9 : run [(e9, false), (e8, false), (e4, false), (e3, false), (e2, false), (e1, false), (e7, true), (e0, false)] = some (.c true) := by kernel_rfl
theorem l10 : run [(e1, true), (e10, true), (e7, false), (e0, false)] = some (.c true) := by kernel_rfl
theorem l11 : run [(e2, true), (e1, false), (e10, true), (e7, false), (e0, false)] = some (.c true) := by kernel_rfl
theorem l12 : run [(e3, true), (e2, false), (e1, false), (e10, true), (e7, false), (e0, false)] = some (.c true) := by kernel_rfl
theorem l13 : run [(e4, true), (e3, false), (e2, false), (e1, false), (e10, true), (e7, false), (e0, false)] = some (.c true) := by kernel_rfl
theorem l14 : run [(e12, false), (e11, false), (e4, false), (e3, false), (e2, false), (e1, false), (e10, true), (e7, false), (e0, false)] = some (.c true) := by kernel_rfl
end Go.Vm.VStepTables
