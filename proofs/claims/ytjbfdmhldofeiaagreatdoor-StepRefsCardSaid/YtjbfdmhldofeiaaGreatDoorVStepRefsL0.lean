/- The law StepRefs: runs. -/
import Derived.Test.YtjbfdmhldofeiaaGreatDoorVStepRefsB
set_option linter.unusedVariables false
set_option linter.unusedSimpArgs false
namespace Go.Vm.VStepRefs
open Go.Vm
theorem l0 : run [] = some (.c true) := by kernel_rfl
end Go.Vm.VStepRefs
