/- The law CallNone: runs. -/
import Derived.Test.YtkmlhhiialbfgaaGreatDoorVCallNoneB
set_option linter.unusedVariables false
set_option linter.unusedSimpArgs false
namespace Go.Vm.VCallNone
open Go.Vm
theorem l0 : run [] = some (.c true) := by kernel_rfl
end Go.Vm.VCallNone
