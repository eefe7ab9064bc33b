/- The law StepCalls: runs. -/
import Derived.Test.YtjbfdmhldofeiaaGreatDoorVStepCallsB
set_option linter.unusedVariables false
set_option linter.unusedSimpArgs false
namespace Go.Vm.VStepCalls
open Go.Vm
theorem l0 : run [] = some (.c true) := by kernel_rfl
end Go.Vm.VStepCalls
