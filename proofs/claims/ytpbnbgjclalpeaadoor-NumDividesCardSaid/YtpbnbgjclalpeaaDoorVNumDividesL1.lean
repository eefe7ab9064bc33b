/- The law NumDivides: runs. -/
import Derived.Test.YtpbnbgjclalpeaaDoorVNumDividesB
set_option linter.unusedVariables false
set_option linter.unusedSimpArgs false
namespace Go.Vm.VNumDivides
open Go.Vm
theorem l32 : run [(e4, true), (e3, true), (e2, true), (e19, false), (e1, false), (e0, true)] = some (.c true) := by kernel_rfl
theorem l33 : run [(e10, true), (e9, false), (e8, false), (e7, false), (e6, true), (e5, true), (e4, false), (e3, true), (e2, true), (e19, false), (e1, false), (e0, true)] = some (.c true) := by kernel_rfl
theorem l34 : run [(e10, true), (e9, false), (e8, false), (e7, false), (e6, true), (e5, false), (e4, false), (e3, true), (e2, true), (e19, false), (e1, false), (e0, true)] = some (.c true) := by kernel_rfl
theorem l35 : run [(e13, false), (e12, false), (e11, false), (e6, false), (e5, false), (e4, false), (e3, true), (e2, true), (e19, false), (e1, false), (e0, true)] = some (.c true) := by kernel_rfl
theorem l36 : run [(e4, true), (e3, false), (e2, true), (e19, false), (e1, false), (e0, true)] = some (.c true) := by kernel_rfl
theorem l37 : run [(e10, true), (e8, false), (e7, false), (e6, true), (e14, false), (e4, false), (e3, false), (e2, true), (e19, false), (e1, false), (e0, true)] = some (.c true) := by kernel_rfl
theorem l38 : run [(e15, false), (e10, false), (e8, false), (e7, false), (e6, true), (e14, false), (e4, false), (e3, false), (e2, true), (e19, false), (e1, false), (e0, true)] = some (.c true) := by kernel_rfl
theorem l39 : run [(e16, false), (e12, false), (e11, false), (e6, false), (e14, false), (e4, false), (e3, false), (e2, true), (e19, false), (e1, false), (e0, true)] = some (.c true) := by kernel_rfl
theorem l40 : run [(e4, true), (e3, true), (e18, true), (e17, true), (e2, false), (e19, false), (e1, false), (e0, true)] = some (.c true) := by kernel_rfl
theorem l41 : run [(e10, true), (e9, false), (e8, false), (e7, false), (e6, true), (e5, true), (e4, false), (e3, true), (e18, true), (e17, true), (e2, false), (e19, false), (e1, false), (e0, true)] = some (.c true) := by kernel_rfl
theorem l42 : run [(e10, true), (e9, false), (e8, false), (e7, false), (e6, true), (e5, false), (e4, false), (e3, true), (e18, true), (e17, true), (e2, false), (e19, false), (e1, false), (e0, true)] = some (.c true) := by kernel_rfl
theorem l43 : run [(e13, false), (e12, false), (e11, false), (e6, false), (e5, false), (e4, false), (e3, true), (e18, true), (e17, true), (e2, false), (e19, false), (e1, false), (e0, true)] = some (.c true) := by kernel_rfl
theorem l44 : run [(e4, true), (e3, false), (e18, true), (e17, true), (e2, false), (e19, false), (e1, false), (e0, true)] = some (.c true) := by kernel_rfl
theorem l45 : run [(e10, true), (e8, false), (e7, false), (e6, true), (e14, false), (e4, false), (e3, false), (e18, true), (e17, true), (e2, false), (e19, false), (e1, false), (e0, true)] = some (.c true) := by kernel_rfl
theorem l46 : run [(e15, false), (e10, false), (e8, false), (e7, false), (e6, true), (e14, false), (e4, false), (e3, false), (e18, true), (e17, true), (e2, false), (e19, false), (e1, false), (e0, true)] = some (.c true) := by kernel_rfl
theorem l47 : run [(e16, false), (e12, false), (e11, false), (e6, false), (e14, false), (e4, false), (e3, false), (e18, true), (e17, true), (e2, false), (e19, false), (e1, false), (e0, true)] = some (.c true) := by kernel_rfl
theorem l48 : run [(e4, true), (e3, true), (e25, false), (e24, false), (e23, false), (e22, false), (e17, false), (e2, false), (e19, false), (e1, false), (e0, true)] = some (.c true) := by kernel_rfl
theorem l49 : run [(e10, true), (e9, false), (e8, false), (e7, false), (e28, false), (e27, false), (e26, false), (e6, true), (e5, true), (e4, false), (e3, true), (e25, false), (e24, false), (e23, false), (e22, false), (e17, false), (e2, false), (e19, false), (e1, false), (e0, true)] = some (.c true) := by kernel_rfl
theorem l50 : run [(e10, true), (e9, false), (e8, false), (e7, false), (e28, false), (e27, false), (e26, false), (e6, true), (e5, false), (e4, false), (e3, true), (e25, false), (e24, false), (e23, false), (e22, false), (e17, false), (e2, false), (e19, false), (e1, false), (e0, true)] = some (.c true) := by kernel_rfl
theorem l51 : run [(e13, false), (e12, false), (e11, false), (e6, false), (e5, false), (e4, false), (e3, true), (e25, false), (e24, false), (e23, false), (e22, false), (e17, false), (e2, false), (e19, false), (e1, false), (e0, true)] = some (.c true) := by kernel_rfl
theorem l52 : run [(e4, true), (e3, false), (e25, false), (e24, false), (e23, false), (e22, false), (e17, false), (e2, false), (e19, false), (e1, false), (e0, true)] = some (.c true) := by kernel_rfl
theorem l53 : run [(e10, true), (e8, false), (e7, false), (e28, false), (e27, false), (e26, false), (e6, true), (e14, false), (e4, false), (e3, false), (e25, false), (e24, false), (e23, false), (e22, false), (e17, false), (e2, false), (e19, false), (e1, false), (e0, true)] = some (.c true) := by kernel_rfl
theorem l54 : run [(e15, false), (e10, false), (e8, false), (e7, false), (e28, false), (e27, false), (e26, false), (e6, true), (e14, false), (e4, false), (e3, false), (e25, false), (e24, false), (e23, false), (e22, false), (e17, false), (e2, false), (e19, false), (e1, false), (e0, true)] = some (.c true) := by kernel_rfl
theorem l55 : run [(e16, false), (e12, false), (e11, false), (e6, false), (e14, false), (e4, false), (e3, false), (e25, false), (e24, false), (e23, false), (e22, false), (e17, false), (e2, false), (e19, false), (e1, false), (e0, true)] = some (.c true) := by kernel_rfl
theorem l56 : run [(e4, true), (e3, true), (e2, true), (e1, true), (e0, false)] = some (.c true) := by kernel_rfl
theorem l57 : run [(e10, true), (e9, false), (e8, false), (e7, false), (e6, true), (e5, true), (e4, false), (e3, true), (e2, true), (e1, true), (e0, false)] = some (.c true) := by kernel_rfl
theorem l58 : run [(e10, true), (e9, false), (e8, false), (e7, false), (e6, true), (e5, false), (e4, false), (e3, true), (e2, true), (e1, true), (e0, false)] = some (.c true) := by kernel_rfl
theorem l59 : run [(e13, false), (e12, false), (e11, false), (e6, false), (e5, false), (e4, false), (e3, true), (e2, true), (e1, true), (e0, false)] = some (.c true) := by kernel_rfl
theorem l60 : run [(e4, true), (e3, false), (e2, true), (e1, true), (e0, false)] = some (.c true) := by kernel_rfl
theorem l61 : run [(e10, true), (e8, false), (e7, false), (e6, true), (e14, false), (e4, false), (e3, false), (e2, true), (e1, true), (e0, false)] = some (.c true) := by kernel_rfl
theorem l62 : run [(e15, false), (e10, false), (e8, false), (e7, false), (e6, true), (e14, false), (e4, false), (e3, false), (e2, true), (e1, true), (e0, false)] = some (.c true) := by kernel_rfl
theorem l63 : run [(e16, false), (e12, false), (e11, false), (e6, false), (e14, false), (e4, false), (e3, false), (e2, true), (e1, true), (e0, false)] = some (.c true) := by kernel_rfl
end Go.Vm.VNumDivides
