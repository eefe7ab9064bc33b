/- The law TableForms: runs. -/
import Derived.Test.YtfjnhdbbjggkmaaVTableFormsB
set_option linter.unusedVariables false
set_option linter.unusedSimpArgs false
namespace Go.Vm.VTableForms
open Go.Vm
theorem l0 : run [] = some (.c true) := by kernel_rfl
end Go.Vm.VTableForms
