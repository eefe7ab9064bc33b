/- The law StepBlocks: runs. -/
import Derived.Test.YtjbfdmhldofeiaaGreatDoorVStepBlocksB
set_option linter.unusedVariables false
set_option linter.unusedSimpArgs false
namespace Go.Vm.VStepBlocks
open Go.Vm
theorem l0 : run [] = some (.c true) := by kernel_rfl
end Go.Vm.VStepBlocks
