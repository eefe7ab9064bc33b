/- The law StepOpens: runs. -/
import Derived.Test.YtjbfdmhldofeiaaGreatDoorVStepOpensB
set_option linter.unusedVariables false
set_option linter.unusedSimpArgs false
namespace Go.Vm.VStepOpens
open Go.Vm
theorem l0 : run [(e1, false), (e0, true)] = some (.c true) := by kernel_rfl
theorem l1 : run [(e1, false), (e2, true), (e0, false)] = some (.c true) := by kernel_rfl
theorem l2 : run [(e1, false), (e3, true), (e2, false), (e0, false)] = some (.c true) := by kernel_rfl
theorem l3 : run [(e1, false), (e4, true), (e3, false), (e2, false), (e0, false)] = some (.c true) := by kernel_rfl
theorem l4 : run [(e1, false), (e5, true), (e4, false), (e3, false), (e2, false), (e0, false)] = some (.c true) := by kernel_rfl
theorem l5 : run [(e1, false), (e6, true), (e5, false), (e4, false), (e3, false), (e2, false), (e0, false)] = some (.c true) := by kernel_rfl
theorem l6 : run [(e1, false), (e7, true), (e6, false), (e5, false), (e4, false), (e3, false), (e2, false), (e0, false)] = some (.c true) := by kernel_rfl
theorem l7 : run [(e1, false), (e8, true), (e7, false), (e6, false), (e5, false), (e4, false), (e3, false), (e2, false), (e0, false)] = some (.c true) := by kernel_rfl
theorem l8 : run [(e1, false), (e9, true), (e8, false), (e7, false), (e6, false), (e5, false), (e4, false), (e3, false), (e2, false), (e0, false)] = some (.c true) := by kernel_rfl
theorem l9 : run [(e1, false), (e10, true), (e9, false), (e8, false), (e7, false), (e6, false), (e5, false), (e4, false), (e3, false), (e2, false), (e0, false)] = some (.c true) := by kernel_rfl
theorem l10 : run [(e1, false), (e11, true), (e10, false), (e9, false), (e8, false), (e7, false), (e6, false), (e5, false), (e4, false), (e3, false), (e2, false), (e0, false)] = some (.c true) := by kernel_rfl
theorem l11 : run [(e1, false), (e12, true), (e11, false), (e10, false), (e9, false), (e8, false), (e7, false), (e6, false), (e5, false), (e4, false), (e3, false), (e2, false), (e0, false)] = some (.c true) := by kernel_rfl
theorem l12 : run [(e1, false), (e13, true), (e12, false), (e11, false), (e10, false), (e9, false), (e8, false), (e7, false), (e6, false), (e5, false), (e4, false), (e3, false), (e2, false), (e0, false)] = some (.c true) := by kernel_rfl
theorem l13 : run [(e1, false), (e14, true), (e13, false), (e12, false), (e11, false), (e10, false), (e9, false), (e8, false), (e7, false), (e6, false), (e5, false), (e4, false), (e3, false), (e2, false), (e0, false)] = some (.c true) := by kernel_rfl
theorem l14 : run [(e1, false), (e15, true), (e14, false), (e13, false), (e12, false), (e11, false), (e10, false), (e9, false), (e8, false), (e7, false), (e6, false), (e5, false), (e4, false), (e3, false), (e2, false), (e0, false)] = some (.c true) := by kernel_rfl
theorem l15 : run [(e1, false), (e16, true), (e15, false), (e14, false), (e13, false), (e12, false), (e11, false), (e10, false), (e9, false), (e8, false), (e7, false), (e6, false), (e5, false), (e4, false), (e3, false), (e2, false), (e0, false)] = some (.c true) := by kernel_rfl
theorem l16 : run [(e1, false), (e17, true), (e16, false), (e15, false), (e14, false), (e13, false), (e12, false), (e11, false), (e10, false), (e9, false), (e8, false), (e7, false), (e6, false), (e5, false), (e4, false), (e3, false), (e2, false), (e0, false)] = some (.c true) := by kernel_rfl
theorem l17 : run [(e1, false), (e18, true), (e17, false), (e16, false), (e15, false), (e14, false), (e13, false), (e12, false), (e11, false), (e10, false), (e9, false), (e8, false), (e7, false), (e6, false), (e5, false), (e4, false), (e3, false), (e2, false), (e0, false)] = some (.c true) := by kernel_rfl
theorem l18 : run [(e1, false), (e19, true), (e18, false), (e17, false), (e16, false), (e15, false), (e14, false), (e13, false), (e12, false), (e11, false), (e10, false), (e9, false), (e8, false), (e7, false), (e6, false), (e5, false), (e4, false), (e3, false), (e2, false), (e0, false)] = some (.c true) := by kernel_rfl
theorem l19 : run [(e1, false), (e20, true), (e19, false), (e18, false), (e17, false), (e16, false), (e15, false), (e14, false), (e13, false), (e12, false), (e11, false), (e10, false), (e9, false), (e8, false), (e7, false), (e6, false), (e5, false), (e4, false), (e3, false), (e2, false), (e0, false)] = some (.c true) := by kernel_rfl
end Go.Vm.VStepOpens
