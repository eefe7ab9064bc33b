/- The law NumBits: runs. -/
import Derived.Test.YtpbnbgjclalpeaaDoorVNumBitsB
set_option linter.unusedVariables false
set_option linter.unusedSimpArgs false
namespace Go.Vm.VNumBits
open Go.Vm
theorem l0 : run [(e3, true), (e2, false), (e1, true), (e0, true)] = some (.c true) := by kernel_rfl
theorem l1 : run [(e8, false), (e7, false), (e6, true), (e5, false), (e4, true), (e3, false), (e2, false), (e1, true), (e0, true)] = some (.c true) := by kernel_rfl
end Go.Vm.VNumBits
