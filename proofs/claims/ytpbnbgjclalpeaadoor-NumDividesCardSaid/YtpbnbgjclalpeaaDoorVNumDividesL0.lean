/- The law NumDivides: runs. -/
import Derived.Test.YtpbnbgjclalpeaaDoorVNumDividesB
set_option linter.unusedVariables false
set_option linter.unusedSimpArgs false
namespace Go.Vm.VNumDivides
open Go.Vm
theorem l0 : run [(e4, true), (e3, true), (e2, true), (e1, true), (e0, true)] = some (.c true) := by kernel_rfl
theorem l1 : run [(e10, true), (e9, false), (e8, false), (e7, false), (e6, true), (e5, true), (e4, false), (e3, true), (e2, true), (e1, true), (e0, true)] = some (.c true) := by kernel_rfl
theorem l2 : run [(e10, true), (e9, false), (e8, false), (e7, false), (e6, true), (e5, false), (e4, false), (e3, true), (e2, true), (e1, true), (e0, true)] = some (.c true) := by kernel_rfl
theorem l3 : run [(e13, false), (e12, false), (e11, false), (e6, false), (e5, false), (e4, false), (e3, true), (e2, true), (e1, true), (e0, true)] = some (.c true) := by kernel_rfl
theorem l4 : run [(e4, true), (e3, false), (e2, true), (e1, true), (e0, true)] = some (.c true) := by kernel_rfl
theorem l5 : run [(e10, true), (e8, false), (e7, false), (e6, true), (e14, false), (e4, false), (e3, false), (e2, true), (e1, true), (e0, true)] = some (.c true) := by kernel_rfl
theorem l6 : run [(e15, false), (e10, false), (e8, false), (e7, false), (e6, true), (e14, false), (e4, false), (e3, false), (e2, true), (e1, true), (e0, true)] = some (.c true) := by kernel_rfl
theorem l7 : run [(e16, false), (e12, false), (e11, false), (e6, false), (e14, false), (e4, false), (e3, false), (e2, true), (e1, true), (e0, true)] = some (.c true) := by kernel_rfl
theorem l8 : run [(e4, true), (e3, true), (e18, true), (e17, true), (e2, false), (e1, true), (e0, true)] = some (.c true) := by kernel_rfl
theorem l9 : run [(e10, true), (e9, false), (e8, false), (e7, false), (e6, true), (e5, true), (e4, false), (e3, true), (e18, true), (e17, true), (e2, false), (e1, true), (e0, true)] = some (.c true) := by kernel_rfl
theorem l10 : run [(e10, true), (e9, false), (e8, false), (e7, false), (e6, true), (e5, false), (e4, false), (e3, true), (e18, true), (e17, true), (e2, false), (e1, true), (e0, true)] = some (.c true) := by kernel_rfl
theorem l11 : run [(e13, false), (e12, false), (e11, false), (e6, false), (e5, false), (e4, false), (e3, true), (e18, true), (e17, true), (e2, false), (e1, true), (e0, true)] = some (.c true) := by kernel_rfl
theorem l12 : run [(e4, true), (e3, false), (e18, true), (e17, true), (e2, false), (e1, true), (e0, true)] = some (.c true) := by kernel_rfl
theorem l13 : run [(e10, true), (e8, false), (e7, false), (e6, true), (e14, false), (e4, false), (e3, false), (e18, true), (e17, true), (e2, false), (e1, true), (e0, true)] = some (.c true) := by kernel_rfl
theorem l14 : run [(e15, false), (e10, false), (e8, false), (e7, false), (e6, true), (e14, false), (e4, false), (e3, false), (e18, true), (e17, true), (e2, false), (e1, true), (e0, true)] = some (.c true) := by kernel_rfl
theorem l15 : run [(e16, false), (e12, false), (e11, false), (e6, false), (e14, false), (e4, false), (e3, false), (e18, true), (e17, true), (e2, false), (e1, true), (e0, true)] = some (.c true) := by kernel_rfl
theorem l16 : run [(e4, true), (e3, true), (e2, true), (e19, true), (e1, false), (e0, true)] = some (.c true) := by kernel_rfl
theorem l17 : run [(e10, true), (e9, false), (e8, false), (e7, false), (e6, true), (e5, true), (e4, false), (e3, true), (e2, true), (e19, true), (e1, false), (e0, true)] = some (.c true) := by kernel_rfl
theorem l18 : run [(e10, true), (e9, false), (e8, false), (e7, false), (e6, true), (e5, false), (e4, false), (e3, true), (e2, true), (e19, true), (e1, false), (e0, true)] = some (.c true) := by kernel_rfl
theorem l19 : run [(e13, false), (e12, false), (e11, false), (e6, false), (e5, false), (e4, false), (e3, true), (e2, true), (e19, true), (e1, false), (e0, true)] = some (.c true) := by kernel_rfl
theorem l20 : run [(e4, true), (e3, false), (e2, true), (e19, true), (e1, false), (e0, true)] = some (.c true) := by kernel_rfl
theorem l21 : run [(e10, true), (e8, false), (e7, false), (e6, true), (e14, false), (e4, false), (e3, false), (e2, true), (e19, true), (e1, false), (e0, true)] = some (.c true) := by kernel_rfl
theorem l22 : run [(e15, false), (e10, false), (e8, false), (e7, false), (e6, true), (e14, false), (e4, false), (e3, false), (e2, true), (e19, true), (e1, false), (e0, true)] = some (.c true) := by kernel_rfl
theorem l23 : run [(e16, false), (e12, false), (e11, false), (e6, false), (e14, false), (e4, false), (e3, false), (e2, true), (e19, true), (e1, false), (e0, true)] = some (.c true) := by kernel_rfl
theorem l24 : run [(e4, true), (e3, true), (e18, true), (e17, true), (e2, false), (e19, true), (e1, false), (e0, true)] = some (.c true) := by kernel_rfl
theorem l25 : run [(e10, true), (e9, false), (e8, false), (e7, false), (e6, true), (e5, true), (e4, false), (e3, true), (e18, true), (e17, true), (e2, false), (e19, true), (e1, false), (e0, true)] = some (.c true) := by kernel_rfl
theorem l26 : run [(e10, true), (e9, false), (e8, false), (e7, false), (e6, true), (e5, false), (e4, false), (e3, true), (e18, true), (e17, true), (e2, false), (e19, true), (e1, false), (e0, true)] = some (.c true) := by kernel_rfl
theorem l27 : run [(e13, false), (e12, false), (e11, false), (e6, false), (e5, false), (e4, false), (e3, true), (e18, true), (e17, true), (e2, false), (e19, true), (e1, false), (e0, true)] = some (.c true) := by kernel_rfl
theorem l28 : run [(e4, true), (e3, false), (e18, true), (e17, true), (e2, false), (e19, true), (e1, false), (e0, true)] = some (.c true) := by kernel_rfl
theorem l29 : run [(e10, true), (e8, false), (e7, false), (e6, true), (e14, false), (e4, false), (e3, false), (e18, true), (e17, true), (e2, false), (e19, true), (e1, false), (e0, true)] = some (.c true) := by kernel_rfl
theorem l30 : run [(e15, false), (e10, false), (e8, false), (e7, false), (e6, true), (e14, false), (e4, false), (e3, false), (e18, true), (e17, true), (e2, false), (e19, true), (e1, false), (e0, true)] = some (.c true) := by kernel_rfl
theorem l31 : run [(e16, false), (e12, false), (e11, false), (e6, false), (e14, false), (e4, false), (e3, false), (e18, true), (e17, true), (e2, false), (e19, true), (e1, false), (e0, true)] = some (.c true) := by kernel_rfl
end Go.Vm.VNumDivides
