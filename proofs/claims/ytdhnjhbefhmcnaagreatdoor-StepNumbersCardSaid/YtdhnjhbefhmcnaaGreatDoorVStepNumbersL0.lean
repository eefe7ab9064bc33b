/- The law StepNumbers: runs. -/
import Derived.Test.YtdhnjhbefhmcnaaGreatDoorVStepNumbersB
set_option linter.unusedVariables false
set_option linter.unusedSimpArgs false
namespace Go.Vm.VStepNumbers
open Go.Vm
theorem l0 : run [(e4, true), (e3, true), (e2, true), (e1, true), (e0, true)] = some (.c true) := by kernel_rfl
theorem l1 : run [(e4, false), (e3, false), (e2, true), (e1, true), (e0, true)] = some (.c true) := by kernel_rfl
theorem l2 : run [(e7, true), (e6, true), (e5, true), (e2, false), (e1, true), (e0, true)] = some (.c true) := by kernel_rfl
theorem l3 : run [(e7, false), (e6, false), (e5, true), (e2, false), (e1, true), (e0, true)] = some (.c true) := by kernel_rfl
theorem l4 : run [(e10, true), (e9, true), (e8, true), (e5, false), (e2, false), (e1, true), (e0, true)] = some (.c true) := by kernel_rfl
theorem l5 : run [(e10, false), (e9, false), (e8, true), (e5, false), (e2, false), (e1, true), (e0, true)] = some (.c true) := by kernel_rfl
theorem l6 : run [(e13, true), (e12, true), (e11, true), (e8, false), (e5, false), (e2, false), (e1, true), (e0, true)] = some (.c true) := by kernel_rfl
theorem l7 : run [(e13, false), (e12, false), (e11, true), (e8, false), (e5, false), (e2, false), (e1, true), (e0, true)] = some (.c true) := by kernel_rfl
theorem l8 : run [(e16, true), (e15, true), (e14, true), (e11, false), (e8, false), (e5, false), (e2, false), (e1, true), (e0, true)] = some (.c true) := by kernel_rfl
theorem l9 : run [(e16, false), (e15, false), (e14, true), (e11, false), (e8, false), (e5, false), (e2, false), (e1, true), (e0, true)] = some (.c true) := by kernel_rfl
theorem l10 : run [(e19, true), (e18, true), (e17, true), (e14, false), (e11, false), (e8, false), (e5, false), (e2, false), (e1, true), (e0, true)] = some (.c true) := by kernel_rfl
theorem l11 : run [(e19, false), (e18, false), (e17, true), (e14, false), (e11, false), (e8, false), (e5, false), (e2, false), (e1, true), (e0, true)] = some (.c true) := by kernel_rfl
end Go.Vm.VStepNumbers
