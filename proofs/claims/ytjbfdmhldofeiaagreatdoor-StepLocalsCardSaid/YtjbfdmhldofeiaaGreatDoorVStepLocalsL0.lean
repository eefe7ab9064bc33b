/- The law StepLocals: runs. -/
import Derived.Test.YtjbfdmhldofeiaaGreatDoorVStepLocalsB
set_option linter.unusedVariables false
set_option linter.unusedSimpArgs false
namespace Go.Vm.VStepLocals
open Go.Vm
theorem l0 : run [] = some (.c true) := by kernel_rfl
end Go.Vm.VStepLocals
