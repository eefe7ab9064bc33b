/- The law HouseNone: runs. -/
import Derived.Test.YtkmlhhiialbfgaaGreatDoorVHouseNoneB
set_option linter.unusedVariables false
set_option linter.unusedSimpArgs false
namespace Go.Vm.VHouseNone
open Go.Vm
theorem l0 : run [] = some (.c true) := by kernel_rfl
end Go.Vm.VHouseNone
