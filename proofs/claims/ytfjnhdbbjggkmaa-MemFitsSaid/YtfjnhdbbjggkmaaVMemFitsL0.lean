/- The law MemFits: runs. -/
import Derived.Test.YtfjnhdbbjggkmaaVMemFitsB
set_option linter.unusedVariables false
set_option linter.unusedSimpArgs false
namespace Go.Vm.VMemFits
open Go.Vm
theorem l0 : run [(e3, true), (e2, false), (e1, true), (e0, true)] = some (.c true) := by kernel_rfl
theorem l1 : run [(e3, false), (e2, false), (e1, true), (e0, true)] = some (.c true) := by kernel_rfl
theorem l2 : run [(e2, false), (e1, false), (e0, true)] = some (.c true) := by kernel_rfl
theorem l3 : run [(e2, true), (e0, false)] = some (.c true) := by kernel_rfl
end Go.Vm.VMemFits
