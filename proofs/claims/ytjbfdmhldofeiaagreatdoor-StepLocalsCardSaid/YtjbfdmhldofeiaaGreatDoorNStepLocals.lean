/- The law StepLocals: what is to be shown of the numbers. -/
import Derived.Test.YtjbfdmhldofeiaaGreatDoorVStepLocalsB
import Derived.Test.YtjbfdmhldofeiaaGreatDoorVmNums
set_option linter.unusedVariables false
set_option linter.unusedSimpArgs false
namespace Go.Vm.VStepLocals
open Go.Vm
theorem holds {env : Nat → Int} (a0 : 0 ≤ env 0) (b0 : env 0 ≤ 4294967295) (a1 : 0 ≤ env 1) (b1 : env 1 ≤ 4294967295) : dt.holds env := by
  exact holds_true
end Go.Vm.VStepLocals
