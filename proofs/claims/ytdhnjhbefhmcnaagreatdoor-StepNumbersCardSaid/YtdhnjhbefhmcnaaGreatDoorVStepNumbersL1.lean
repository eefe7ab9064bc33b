/- The law StepNumbers: runs. -/
import Derived.Test.YtdhnjhbefhmcnaaGreatDoorVStepNumbersB
set_option linter.unusedVariables false
set_option linter.unusedSimpArgs false
namespace Go.Vm.VStepNumbers
open Go.Vm
theorem l12 : run [(e22, true), (e21, true), (e20, true), (e17, false), (e14, false), (e11, false), (e8, false), (e5, false), (e2, false), (e1, true), (e0, true)] = some (.c true) := by kernel_rfl
theorem l13 : run [(e22, false), (e21, false), (e20, true), (e17, false), (e14, false), (e11, false), (e8, false), (e5, false), (e2, false), (e1, true), (e0, true)] = some (.c true) := by kernel_rfl
theorem l14 : run [(e25, true), (e24, true), (e23, true), (e20, false), (e17, false), (e14, false), (e11, false), (e8, false), (e5, false), (e2, false), (e1, true), (e0, true)] = some (.c true) := by kernel_rfl
theorem l15 : run [(e25, false), (e24, false), (e23, true), (e20, false), (e17, false), (e14, false), (e11, false), (e8, false), (e5, false), (e2, false), (e1, true), (e0, true)] = some (.c true) := by kernel_rfl
theorem l16 : run [(e28, true), (e27, true), (e26, true), (e23, false), (e20, false), (e17, false), (e14, false), (e11, false), (e8, false), (e5, false), (e2, false), (e1, true), (e0, true)] = some (.c true) := by kernel_rfl
theorem l17 : run [(e28, false), (e27, false), (e26, true), (e23, false), (e20, false), (e17, false), (e14, false), (e11, false), (e8, false), (e5, false), (e2, false), (e1, true), (e0, true)] = some (.c true) := by kernel_rfl
theorem l18 : run [(e31, true), (e30, true), (e29, true), (e26, false), (e23, false), (e20, false), (e17, false), (e14, false), (e11, false), (e8, false), (e5, false), (e2, false), (e1, true), (e0, true)] = some (.c true) := by kernel_rfl
theorem l19 : run [(e31, false), (e30, false), (e29, true), (e26, false), (e23, false), (e20, false), (e17, false), (e14, false), (e11, false), (e8, false), (e5, false), (e2, false), (e1, true), (e0, true)] = some (.c true) := by kernel_rfl
theorem l20 : run [(e34, true), (e33, true), (e32, true), (e29, false), (e26, false), (e23, false), (e20, false), (e17, false), (e14, false), (e11, false), (e8, false), (e5, false), (e2, false), (e1, true), (e0, true)] = some (.c true) := by kernel_rfl
theorem l21 : run [(e34, false), (e33, false), (e32, true), (e29, false), (e26, false), (e23, false), (e20, false), (e17, false), (e14, false), (e11, false), (e8, false), (e5, false), (e2, false), (e1, true), (e0, true)] = some (.c true) := by kernel_rfl
theorem l22 : run [(e36, true), (e35, true), (e32, false), (e29, false), (e26, false), (e23, false), (e20, false), (e17, false), (e14, false), (e11, false), (e8, false), (e5, false), (e2, false), (e1, true), (e0, true)] = some (.c true) := by kernel_rfl
theorem l23 : run [(e36, false), (e35, true), (e32, false), (e29, false), (e26, false), (e23, false), (e20, false), (e17, false), (e14, false), (e11, false), (e8, false), (e5, false), (e2, false), (e1, true), (e0, true)] = some (.c true) := by kernel_rfl
end Go.Vm.VStepNumbers
