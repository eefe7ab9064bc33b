/- The law StepRefs: what is to be shown of the numbers. -/
import Derived.Test.YtjbfdmhldofeiaaGreatDoorVStepRefsB
import Derived.Test.YtjbfdmhldofeiaaGreatDoorVmNums
set_option linter.unusedVariables false
set_option linter.unusedSimpArgs false
namespace Go.Vm.VStepRefs
open Go.Vm
theorem holds {env : Nat → Int} : dt.holds env := by
  exact holds_true
end Go.Vm.VStepRefs
