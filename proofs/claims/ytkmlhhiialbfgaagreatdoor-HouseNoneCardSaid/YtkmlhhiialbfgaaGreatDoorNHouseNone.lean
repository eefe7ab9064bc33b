/- The law HouseNone: what is to be shown of the numbers. -/
import Derived.Test.YtkmlhhiialbfgaaGreatDoorVHouseNoneB
import Derived.Test.YtkmlhhiialbfgaaGreatDoorVmNums
set_option linter.unusedVariables false
set_option linter.unusedSimpArgs false
namespace Go.Vm.VHouseNone
open Go.Vm
theorem holds {env : Nat → Int} : dt.holds env := by
  exact holds_true
end Go.Vm.VHouseNone
