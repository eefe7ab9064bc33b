/- The law MemGrows: runs. -/
import Derived.Test.YtfjnhdbbjggkmaaVMemGrowsB
set_option linter.unusedVariables false
set_option linter.unusedSimpArgs false
namespace Go.Vm.VMemGrows
open Go.Vm
theorem l0 : run [(e4, true), (e3, true), (e2, true), (e1, true), (e0, true)] = some (.c true) := by kernel_rfl
theorem l1 : run [(e5, true), (e4, false), (e3, true), (e2, true), (e1, true), (e0, true)] = some (.c true) := by kernel_rfl
theorem l2 : run [(e7, false), (e5, false), (e4, false), (e6, false), (e3, false), (e2, true), (e1, true), (e0, true)] = some (.c true) := by kernel_rfl
theorem l3 : run [(e7, false), (e4, false), (e2, false), (e1, true), (e0, true)] = some (.c true) := by kernel_rfl
theorem l4 : run [(e12, false), (e11, false), (e10, false), (e9, false), (e8, false), (e2, true), (e1, false), (e0, true)] = some (.c true) := by kernel_rfl
theorem l5 : run [(e12, false), (e10, false), (e2, false), (e1, false), (e0, true)] = some (.c true) := by kernel_rfl
theorem l6 : run [(e4, true), (e3, true), (e2, true), (e1, true), (e13, true), (e0, false)] = some (.c true) := by kernel_rfl
theorem l7 : run [(e5, true), (e4, false), (e3, true), (e2, true), (e1, true), (e13, true), (e0, false)] = some (.c true) := by kernel_rfl
theorem l8 : run [(e4, true), (e14, true), (e3, false), (e2, true), (e1, true), (e13, true), (e0, false)] = some (.c true) := by kernel_rfl
theorem l9 : run [(e5, true), (e4, false), (e14, true), (e3, false), (e2, true), (e1, true), (e13, true), (e0, false)] = some (.c true) := by kernel_rfl
theorem l10 : run [(e4, true), (e2, false), (e1, true), (e13, true), (e0, false)] = some (.c true) := by kernel_rfl
theorem l11 : run [(e10, true), (e15, true), (e8, false), (e2, true), (e1, false), (e13, true), (e0, false)] = some (.c true) := by kernel_rfl
theorem l12 : run [(e11, true), (e10, false), (e15, true), (e8, false), (e2, true), (e1, false), (e13, true), (e0, false)] = some (.c true) := by kernel_rfl
theorem l13 : run [(e16, false), (e11, false), (e10, false), (e15, false), (e8, false), (e2, true), (e1, false), (e13, true), (e0, false)] = some (.c true) := by kernel_rfl
theorem l14 : run [(e16, false), (e10, false), (e2, false), (e1, false), (e13, true), (e0, false)] = some (.c true) := by kernel_rfl
theorem l15 : run [(e4, true), (e3, true), (e2, true), (e1, true), (e13, false), (e0, false)] = some (.c true) := by kernel_rfl
theorem l16 : run [(e5, true), (e4, false), (e3, true), (e2, true), (e1, true), (e13, false), (e0, false)] = some (.c true) := by kernel_rfl
theorem l17 : run [(e4, true), (e17, true), (e3, false), (e2, true), (e1, true), (e13, false), (e0, false)] = some (.c true) := by kernel_rfl
theorem l18 : run [(e5, true), (e4, false), (e17, true), (e3, false), (e2, true), (e1, true), (e13, false), (e0, false)] = some (.c true) := by kernel_rfl
theorem l19 : run [(e4, true), (e18, true), (e2, false), (e1, true), (e13, false), (e0, false)] = some (.c true) := by kernel_rfl
theorem l20 : run [(e10, true), (e19, true), (e8, false), (e2, true), (e1, false), (e13, false), (e0, false)] = some (.c true) := by kernel_rfl
theorem l21 : run [(e11, true), (e10, false), (e19, true), (e8, false), (e2, true), (e1, false), (e13, false), (e0, false)] = some (.c true) := by kernel_rfl
theorem l22 : run [(e10, true), (e20, true), (e2, false), (e1, false), (e13, false), (e0, false)] = some (.c true) := by kernel_rfl
end Go.Vm.VMemGrows
