/- The law UndoNone: what is to be shown of the numbers. -/
import Derived.Test.YtkmlhhiialbfgaaVUndoNoneB
import Derived.Test.YtkmlhhiialbfgaaVmNums
set_option linter.unusedVariables false
set_option linter.unusedSimpArgs false
namespace Go.Vm.VUndoNone
open Go.Vm
theorem holds {env : Nat → Int} : dt.holds env := by
  exact holds_true
end Go.Vm.VUndoNone
