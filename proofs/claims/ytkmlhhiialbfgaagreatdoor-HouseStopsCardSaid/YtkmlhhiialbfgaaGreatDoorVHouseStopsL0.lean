/- The law HouseStops: runs. -/
import Derived.Test.YtkmlhhiialbfgaaGreatDoorVHouseStopsB
set_option linter.unusedVariables false
set_option linter.unusedSimpArgs false
namespace Go.Vm.VHouseStops
open Go.Vm
theorem l0 : run [(e3, false), (e2, true), (e1, true), (e0, true)] = some (.eq (.bin .and .u64 (.wrap .u64 (.bin .add .u64 (.c (.ofNat 0)) (.bin .and .u64 (.bin .and .u64 (.wrap .u64 (.v 3)) (.c (.ofNat 4294967295))) (.c (.ofNat 4294967295))))) (.c (.ofNat 4294967295))) (.wrap .u64 (.v 3))) := by kernel_rfl
theorem l1 : run [(e3, false), (e4, true), (e2, false), (e1, true), (e0, true)] = some (.eq (.bin .and .u64 (.wrap .u64 (.bin .add .u64 (.c (.ofNat 0)) (.bin .and .u64 (.bin .and .u64 (.wrap .u64 (.v 3)) (.c (.ofNat 4294967295))) (.c (.ofNat 4294967295))))) (.c (.ofNat 4294967295))) (.wrap .u64 (.v 3))) := by kernel_rfl
theorem l2 : run [(e3, false), (e5, true), (e4, false), (e2, false), (e1, true), (e0, true)] = some (.eq (.bin .and .u64 (.wrap .u64 (.bin .add .u64 (.c (.ofNat 0)) (.bin .and .u64 (.bin .and .u64 (.wrap .u64 (.v 3)) (.c (.ofNat 4294967295))) (.c (.ofNat 4294967295))))) (.c (.ofNat 4294967295))) (.wrap .u64 (.v 3))) := by kernel_rfl
theorem l3 : run [(e3, false), (e6, true), (e5, false), (e4, false), (e2, false), (e1, true), (e0, true)] = some (.eq (.bin .and .u64 (.wrap .u64 (.bin .add .u64 (.c (.ofNat 0)) (.bin .and .u64 (.bin .and .u64 (.wrap .u64 (.v 3)) (.c (.ofNat 4294967295))) (.c (.ofNat 4294967295))))) (.c (.ofNat 4294967295))) (.wrap .u64 (.v 3))) := by kernel_rfl
theorem l4 : run [(e3, false), (e7, true), (e6, false), (e5, false), (e4, false), (e2, false), (e1, true), (e0, true)] = some (.eq (.bin .and .u64 (.wrap .u64 (.bin .add .u64 (.c (.ofNat 0)) (.bin .and .u64 (.bin .and .u64 (.wrap .u64 (.v 3)) (.c (.ofNat 4294967295))) (.c (.ofNat 4294967295))))) (.c (.ofNat 4294967295))) (.wrap .u64 (.v 3))) := by kernel_rfl
theorem l5 : run [(e3, false), (e2, true), (e1, false), (e0, true)] = some (.eq (.bin .and .u64 (.wrap .u64 (.bin .add .u64 (.c (.ofNat 0)) (.bin .and .u64 (.bin .and .u64 (.wrap .u64 (.v 3)) (.c (.ofNat 4294967295))) (.c (.ofNat 4294967295))))) (.c (.ofNat 4294967295))) (.wrap .u64 (.v 3))) := by kernel_rfl
end Go.Vm.VHouseStops
