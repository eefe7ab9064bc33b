/- The law StepMulti: runs. -/
import Derived.Test.YtjbfdmhldofeiaaGreatDoorVStepMultiB
set_option linter.unusedVariables false
set_option linter.unusedSimpArgs false
namespace Go.Vm.VStepMulti
open Go.Vm
theorem l0 : run [(e2, false), (e1, false), (e0, false)] = some (.c true) := by kernel_rfl
end Go.Vm.VStepMulti
