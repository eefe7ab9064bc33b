/- The law CallNone: what is to be shown of the numbers. -/
import Derived.Test.YtkmlhhiialbfgaaGreatDoorVCallNoneB
import Derived.Test.YtkmlhhiialbfgaaGreatDoorVmNums
set_option linter.unusedVariables false
set_option linter.unusedSimpArgs false
namespace Go.Vm.VCallNone
open Go.Vm
theorem holds {env : Nat → Int} : dt.holds env := by
  exact holds_true
end Go.Vm.VCallNone
