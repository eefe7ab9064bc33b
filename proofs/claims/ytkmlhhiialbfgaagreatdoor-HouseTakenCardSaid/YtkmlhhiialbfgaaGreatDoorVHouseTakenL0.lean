/- The law HouseTaken: runs. -/
import Derived.Test.YtkmlhhiialbfgaaGreatDoorVHouseTakenB
set_option linter.unusedVariables false
set_option linter.unusedSimpArgs false
namespace Go.Vm.VHouseTaken
open Go.Vm
theorem l0 : run [] = some (.c true) := by kernel_rfl
end Go.Vm.VHouseTaken
