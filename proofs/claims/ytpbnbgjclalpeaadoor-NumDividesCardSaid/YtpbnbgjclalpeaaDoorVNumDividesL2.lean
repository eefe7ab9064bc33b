/- The law NumDivides: runs. -/
import Derived.Test.YtpbnbgjclalpeaaDoorVNumDividesB
set_option linter.unusedVariables false
set_option linter.unusedSimpArgs false
namespace Go.Vm.VNumDivides
open Go.Vm
theorem l64 : run [(e4, true), (e3, true), (e18, true), (e17, true), (e2, false), (e1, true), (e0, false)] = some (.c true) := by kernel_rfl
theorem l65 : run [(e10, true), (e9, false), (e8, false), (e7, false), (e6, true), (e5, true), (e4, false), (e3, true), (e18, true), (e17, true), (e2, false), (e1, true), (e0, false)] = some (.c true) := by kernel_rfl
theorem l66 : run [(e10, true), (e9, false), (e8, false), (e7, false), (e6, true), (e5, false), (e4, false), (e3, true), (e18, true), (e17, true), (e2, false), (e1, true), (e0, false)] = some (.c true) := by kernel_rfl
theorem l67 : run [(e13, false), (e12, false), (e11, false), (e6, false), (e5, false), (e4, false), (e3, true), (e18, true), (e17, true), (e2, false), (e1, true), (e0, false)] = some (.c true) := by kernel_rfl
theorem l68 : run [(e4, true), (e3, false), (e18, true), (e17, true), (e2, false), (e1, true), (e0, false)] = some (.c true) := by kernel_rfl
theorem l69 : run [(e10, true), (e8, false), (e7, false), (e6, true), (e14, false), (e4, false), (e3, false), (e18, true), (e17, true), (e2, false), (e1, true), (e0, false)] = some (.c true) := by kernel_rfl
theorem l70 : run [(e15, false), (e10, false), (e8, false), (e7, false), (e6, true), (e14, false), (e4, false), (e3, false), (e18, true), (e17, true), (e2, false), (e1, true), (e0, false)] = some (.c true) := by kernel_rfl
theorem l71 : run [(e16, false), (e12, false), (e11, false), (e6, false), (e14, false), (e4, false), (e3, false), (e18, true), (e17, true), (e2, false), (e1, true), (e0, false)] = some (.c true) := by kernel_rfl
theorem l72 : run [(e4, true), (e3, true), (e2, true), (e29, false), (e1, false), (e0, false)] = some (.c true) := by kernel_rfl
theorem l73 : run [(e10, true), (e9, false), (e8, false), (e7, false), (e6, true), (e5, true), (e4, false), (e3, true), (e2, true), (e29, false), (e1, false), (e0, false)] = some (.c true) := by kernel_rfl
theorem l74 : run [(e10, true), (e9, false), (e8, false), (e7, false), (e6, true), (e5, false), (e4, false), (e3, true), (e2, true), (e29, false), (e1, false), (e0, false)] = some (.c true) := by kernel_rfl
theorem l75 : run [(e13, false), (e12, false), (e11, false), (e6, false), (e5, false), (e4, false), (e3, true), (e2, true), (e29, false), (e1, false), (e0, false)] = some (.c true) := by kernel_rfl
theorem l76 : run [(e4, true), (e3, false), (e2, true), (e29, false), (e1, false), (e0, false)] = some (.c true) := by kernel_rfl
theorem l77 : run [(e10, true), (e8, false), (e7, false), (e6, true), (e14, false), (e4, false), (e3, false), (e2, true), (e29, false), (e1, false), (e0, false)] = some (.c true) := by kernel_rfl
theorem l78 : run [(e15, false), (e10, false), (e8, false), (e7, false), (e6, true), (e14, false), (e4, false), (e3, false), (e2, true), (e29, false), (e1, false), (e0, false)] = some (.c true) := by kernel_rfl
theorem l79 : run [(e16, false), (e12, false), (e11, false), (e6, false), (e14, false), (e4, false), (e3, false), (e2, true), (e29, false), (e1, false), (e0, false)] = some (.c true) := by kernel_rfl
theorem l80 : run [(e4, true), (e3, true), (e18, true), (e17, true), (e2, false), (e29, false), (e1, false), (e0, false)] = some (.c true) := by kernel_rfl
theorem l81 : run [(e10, true), (e9, false), (e8, false), (e7, false), (e6, true), (e5, true), (e4, false), (e3, true), (e18, true), (e17, true), (e2, false), (e29, false), (e1, false), (e0, false)] = some (.c true) := by kernel_rfl
theorem l82 : run [(e10, true), (e9, false), (e8, false), (e7, false), (e6, true), (e5, false), (e4, false), (e3, true), (e18, true), (e17, true), (e2, false), (e29, false), (e1, false), (e0, false)] = some (.c true) := by kernel_rfl
theorem l83 : run [(e13, false), (e12, false), (e11, false), (e6, false), (e5, false), (e4, false), (e3, true), (e18, true), (e17, true), (e2, false), (e29, false), (e1, false), (e0, false)] = some (.c true) := by kernel_rfl
theorem l84 : run [(e4, true), (e3, false), (e18, true), (e17, true), (e2, false), (e29, false), (e1, false), (e0, false)] = some (.c true) := by kernel_rfl
theorem l85 : run [(e10, true), (e8, false), (e7, false), (e6, true), (e14, false), (e4, false), (e3, false), (e18, true), (e17, true), (e2, false), (e29, false), (e1, false), (e0, false)] = some (.c true) := by kernel_rfl
theorem l86 : run [(e15, false), (e10, false), (e8, false), (e7, false), (e6, true), (e14, false), (e4, false), (e3, false), (e18, true), (e17, true), (e2, false), (e29, false), (e1, false), (e0, false)] = some (.c true) := by kernel_rfl
theorem l87 : run [(e16, false), (e12, false), (e11, false), (e6, false), (e14, false), (e4, false), (e3, false), (e18, true), (e17, true), (e2, false), (e29, false), (e1, false), (e0, false)] = some (.c true) := by kernel_rfl
theorem l88 : run [(e4, true), (e3, true), (e32, false), (e31, false), (e30, false), (e21, false), (e20, false), (e18, false), (e17, true), (e2, false), (e29, false), (e1, false), (e0, false)] = some (.c true) := by kernel_rfl
theorem l89 : run [(e10, true), (e9, false), (e8, false), (e7, false), (e35, false), (e34, false), (e33, false), (e27, false), (e26, false), (e6, true), (e5, true), (e4, false), (e3, true), (e32, false), (e31, false), (e30, false), (e21, false), (e20, false), (e18, false), (e17, true), (e2, false), (e29, false), (e1, false), (e0, false)] = some (.c true) := by kernel_rfl
theorem l90 : run [(e10, true), (e9, false), (e8, false), (e7, false), (e35, false), (e34, false), (e33, false), (e27, false), (e26, false), (e6, true), (e5, false), (e4, false), (e3, true), (e32, false), (e31, false), (e30, false), (e21, false), (e20, false), (e18, false), (e17, true), (e2, false), (e29, false), (e1, false), (e0, false)] = some (.c true) := by kernel_rfl
theorem l91 : run [(e13, false), (e12, false), (e11, false), (e6, false), (e5, false), (e4, false), (e3, true), (e32, false), (e31, false), (e30, false), (e21, false), (e20, false), (e18, false), (e17, true), (e2, false), (e29, false), (e1, false), (e0, false)] = some (.c true) := by kernel_rfl
theorem l92 : run [(e4, true), (e3, false), (e32, false), (e31, false), (e30, false), (e21, false), (e20, false), (e18, false), (e17, true), (e2, false), (e29, false), (e1, false), (e0, false)] = some (.c true) := by kernel_rfl
theorem l93 : run [(e10, true), (e8, false), (e7, false), (e35, false), (e34, false), (e33, false), (e27, false), (e26, false), (e6, true), (e14, false), (e4, false), (e3, false), (e32, false), (e31, false), (e30, false), (e21, false), (e20, false), (e18, false), (e17, true), (e2, false), (e29, false), (e1, false), (e0, false)] = some (.c true) := by kernel_rfl
theorem l94 : run [(e15, false), (e10, false), (e8, false), (e7, false), (e35, false), (e34, false), (e33, false), (e27, false), (e26, false), (e6, true), (e14, false), (e4, false), (e3, false), (e32, false), (e31, false), (e30, false), (e21, false), (e20, false), (e18, false), (e17, true), (e2, false), (e29, false), (e1, false), (e0, false)] = some (.c true) := by kernel_rfl
theorem l95 : run [(e16, false), (e12, false), (e11, false), (e6, false), (e14, false), (e4, false), (e3, false), (e32, false), (e31, false), (e30, false), (e21, false), (e20, false), (e18, false), (e17, true), (e2, false), (e29, false), (e1, false), (e0, false)] = some (.c true) := by kernel_rfl
end Go.Vm.VNumDivides
