/- The law NumShifts: runs. -/
import Derived.Test.YtpbnbgjclalpeaaDoorVNumShiftsB
set_option linter.unusedVariables false
set_option linter.unusedSimpArgs false
namespace Go.Vm.VNumShifts
open Go.Vm
theorem l0 : run [(e18, true), (e17, true), (e16, true), (e15, true), (e14, true), (e13, true), (e12, true), (e11, true), (e10, true), (e9, false), (e8, false), (e7, false), (e6, true), (e5, false), (e4, false), (e3, false), (e2, true), (e1, true), (e0, true)] = some (.eq (.bin .or .u64 (.wrap .u64 (.bin .shl .u64 (.bin .or .u64 (.wrap .u64 (.bin .shl .u64 (.v 0) (.bin .and .u64 (.wrap .u64 (.bin .and .i64 (.wrap .i64 (.v 1)) (.c (.ofNat 63)))) (.c (.ofNat 63))))) (.bin .shr .u64 (.v 0) (.wrap .u64 (.bin .sub .u64 (.c (.ofNat 64)) (.bin .and .u64 (.wrap .u64 (.bin .and .i64 (.wrap .i64 (.v 1)) (.c (.ofNat 63)))) (.c (.ofNat 63))))))) (.bin .and .u64 (.wrap .u64 (.wrap .i64 (.bin .sub .i64 (.c (.ofNat 0)) (.bin .and .i64 (.wrap .i64 (.v 1)) (.c (.ofNat 63)))))) (.c (.ofNat 63))))) (.bin .shr .u64 (.bin .or .u64 (.wrap .u64 (.bin .shl .u64 (.v 0) (.bin .and .u64 (.wrap .u64 (.bin .and .i64 (.wrap .i64 (.v 1)) (.c (.ofNat 63)))) (.c (.ofNat 63))))) (.bin .shr .u64 (.v 0) (.wrap .u64 (.bin .sub .u64 (.c (.ofNat 64)) (.bin .and .u64 (.wrap .u64 (.bin .and .i64 (.wrap .i64 (.v 1)) (.c (.ofNat 63)))) (.c (.ofNat 63))))))) (.wrap .u64 (.bin .sub .u64 (.c (.ofNat 64)) (.bin .and .u64 (.wrap .u64 (.wrap .i64 (.bin .sub .i64 (.c (.ofNat 0)) (.bin .and .i64 (.wrap .i64 (.v 1)) (.c (.ofNat 63)))))) (.c (.ofNat 63))))))) (.v 0)) := by kernel_rfl
end Go.Vm.VNumShifts
