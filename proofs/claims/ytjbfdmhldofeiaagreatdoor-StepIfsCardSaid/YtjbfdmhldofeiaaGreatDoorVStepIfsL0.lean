/- The law StepIfs: runs. -/
import Derived.Test.YtjbfdmhldofeiaaGreatDoorVStepIfsB
set_option linter.unusedVariables false
set_option linter.unusedSimpArgs false
namespace Go.Vm.VStepIfs
open Go.Vm
theorem l0 : run [(e1, false), (e0, true)] = some (.c true) := by kernel_rfl
theorem l1 : run [(e1, true), (e0, false)] = some (.c true) := by kernel_rfl
end Go.Vm.VStepIfs
