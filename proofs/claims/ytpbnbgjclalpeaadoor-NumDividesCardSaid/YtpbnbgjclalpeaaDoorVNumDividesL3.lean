/- The law NumDivides: runs. -/
import Derived.Test.YtpbnbgjclalpeaaDoorVNumDividesB
set_option linter.unusedVariables false
set_option linter.unusedSimpArgs false
namespace Go.Vm.VNumDivides
open Go.Vm
theorem l96 : run [(e4, true), (e3, true), (e38, false), (e37, false), (e36, false), (e23, false), (e22, false), (e17, false), (e2, false), (e29, false), (e1, false), (e0, false)] = some (.c true) := by kernel_rfl
theorem l97 : run [(e10, true), (e9, false), (e8, false), (e7, false), (e35, false), (e34, false), (e33, false), (e27, false), (e26, false), (e6, true), (e5, true), (e4, false), (e3, true), (e38, false), (e37, false), (e36, false), (e23, false), (e22, false), (e17, false), (e2, false), (e29, false), (e1, false), (e0, false)] = some (.c true) := by kernel_rfl
theorem l98 : run [(e10, true), (e9, false), (e8, false), (e7, false), (e35, false), (e34, false), (e33, false), (e27, false), (e26, false), (e6, true), (e5, false), (e4, false), (e3, true), (e38, false), (e37, false), (e36, false), (e23, false), (e22, false), (e17, false), (e2, false), (e29, false), (e1, false), (e0, false)] = some (.c true) := by kernel_rfl
theorem l99 : run [(e13, false), (e12, false), (e11, false), (e6, false), (e5, false), (e4, false), (e3, true), (e38, false), (e37, false), (e36, false), (e23, false), (e22, false), (e17, false), (e2, false), (e29, false), (e1, false), (e0, false)] = some (.c true) := by kernel_rfl
theorem l100 : run [(e4, true), (e3, false), (e38, false), (e37, false), (e36, false), (e23, false), (e22, false), (e17, false), (e2, false), (e29, false), (e1, false), (e0, false)] = some (.c true) := by kernel_rfl
theorem l101 : run [(e10, true), (e8, false), (e7, false), (e35, false), (e34, false), (e33, false), (e27, false), (e26, false), (e6, true), (e14, false), (e4, false), (e3, false), (e38, false), (e37, false), (e36, false), (e23, false), (e22, false), (e17, false), (e2, false), (e29, false), (e1, false), (e0, false)] = some (.c true) := by kernel_rfl
theorem l102 : run [(e15, false), (e10, false), (e8, false), (e7, false), (e35, false), (e34, false), (e33, false), (e27, false), (e26, false), (e6, true), (e14, false), (e4, false), (e3, false), (e38, false), (e37, false), (e36, false), (e23, false), (e22, false), (e17, false), (e2, false), (e29, false), (e1, false), (e0, false)] = some (.c true) := by kernel_rfl
theorem l103 : run [(e16, false), (e12, false), (e11, false), (e6, false), (e14, false), (e4, false), (e3, false), (e38, false), (e37, false), (e36, false), (e23, false), (e22, false), (e17, false), (e2, false), (e29, false), (e1, false), (e0, false)] = some (.c true) := by kernel_rfl
end Go.Vm.VNumDivides
