/- The law HouseTaken: what is to be shown of the numbers. -/
import Derived.Test.YtkmlhhiialbfgaaGreatDoorVHouseTakenB
import Derived.Test.YtkmlhhiialbfgaaGreatDoorVmNums
set_option linter.unusedVariables false
set_option linter.unusedSimpArgs false
namespace Go.Vm.VHouseTaken
open Go.Vm
theorem holds {env : Nat → Int} : dt.holds env := by
  exact holds_true
end Go.Vm.VHouseTaken
