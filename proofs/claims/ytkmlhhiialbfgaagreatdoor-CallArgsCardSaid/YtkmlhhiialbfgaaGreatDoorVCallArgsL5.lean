/- The law CallArgs: runs. -/
import Derived.Test.YtkmlhhiialbfgaaGreatDoorVCallArgsB
set_option linter.unusedVariables false
set_option linter.unusedSimpArgs false
namespace Go.Vm.VCallArgs
open Go.Vm
theorem lnil_7 : run_nil [(e7, true), (e6, false), (e5, false), (e4, false), (e3, false), (e2, false), (e1, false), (e0, false)] = some (.c true) := by kernel_rfl
theorem lnil_8 : run_nil [(e8, true), (e7, false), (e6, false), (e5, false), (e4, false), (e3, false), (e2, false), (e1, false), (e0, false)] = some (.c true) := by kernel_rfl
theorem lnil_9 : run_nil [(e9, true), (e8, false), (e7, false), (e6, false), (e5, false), (e4, false), (e3, false), (e2, false), (e1, false), (e0, false)] = some (.c true) := by kernel_rfl
end Go.Vm.VCallArgs
