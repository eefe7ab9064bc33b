/- The law UndoNone: runs. -/
import Derived.Test.YtkmlhhiialbfgaaVUndoNoneB
set_option linter.unusedVariables false
set_option linter.unusedSimpArgs false
namespace Go.Vm.VUndoNone
open Go.Vm
theorem l0 : run [] = some (.c true) := by kernel_rfl
end Go.Vm.VUndoNone
