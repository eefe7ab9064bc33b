/- The law StepMemory: runs. -/
import Derived.Test.YtjbfdmhldofeiaaGreatDoorVStepMemoryB
set_option linter.unusedVariables false
set_option linter.unusedSimpArgs false
namespace Go.Vm.VStepMemory
open Go.Vm
theorem l0 : run [] = some (.c true) := by kernel_rfl
end Go.Vm.VStepMemory
