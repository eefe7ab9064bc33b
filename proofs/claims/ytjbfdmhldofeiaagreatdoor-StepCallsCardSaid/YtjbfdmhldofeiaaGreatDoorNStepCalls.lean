/- The law StepCalls: what is to be shown of the numbers. -/
import Derived.Test.YtjbfdmhldofeiaaGreatDoorVStepCallsB
import Derived.Test.YtjbfdmhldofeiaaGreatDoorVmNums
set_option linter.unusedVariables false
set_option linter.unusedSimpArgs false
namespace Go.Vm.VStepCalls
open Go.Vm
theorem holds {env : Nat → Int} : dt.holds env := by
  exact holds_true
end Go.Vm.VStepCalls
