/- The law TableForms: what is to be shown of the numbers. -/
import Derived.Test.YtfjnhdbbjggkmaaVTableFormsB
import Derived.Test.YtfjnhdbbjggkmaaVmNums
set_option linter.unusedVariables false
set_option linter.unusedSimpArgs false
namespace Go.Vm.VTableForms
open Go.Vm
theorem holds {env : Nat → Int} : dt.holds env := by
  exact holds_true
end Go.Vm.VTableForms
