/- The law StepMemory: what is to be shown of the numbers. -/
import Derived.Test.YtjbfdmhldofeiaaGreatDoorVStepMemoryB
import Derived.Test.YtjbfdmhldofeiaaGreatDoorVmNums
set_option linter.unusedVariables false
set_option linter.unusedSimpArgs false
namespace Go.Vm.VStepMemory
open Go.Vm
theorem holds {env : Nat → Int} : dt.holds env := by
  exact holds_true
end Go.Vm.VStepMemory
