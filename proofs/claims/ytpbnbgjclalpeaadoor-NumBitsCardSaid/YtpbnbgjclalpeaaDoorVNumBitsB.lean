/- The law NumBits: the cases of its run, and the run. -/
import Derived.Test.YtpbnbgjclalpeaaDoorVmSum
set_option linter.unusedVariables false
set_option linter.unusedSimpArgs false
namespace Go.Vm.VNumBits
open Go.Vm Go.Proofs
noncomputable section
def e0 : BE := (.le (.c (.ofNat 0)) (.v 0))
def e1 : BE := (.le (.v 0) (.c (.ofNat 18446744073709551615)))
def e2 : BE := (.not (.eq (.wrap .u64 (.bin .pop .u32 (.wrap .u32 (.v 0)) (.c (.ofNat 0)))) (.wrap .u64 (.bin .pop .u64 (.wrap .u64 (.wrap .u32 (.v 0))) (.c (.ofNat 0))))))
def e3 : BE := (.eq (.v 0) (.c (.ofNat 0)))
def e4 : BE := (.le (.c (.ofNat 0)) (.wrap .u64 (.bin .sub .u64 (.c (.ofNat 63)) (.wrap .u64 (.bin .lz .u64 (.v 0) (.c (.ofNat 0)))))))
def e5 : BE := (.not (.eq (.bin .shr .u64 (.v 0) (.wrap .u64 (.bin .sub .u64 (.c (.ofNat 63)) (.wrap .u64 (.bin .lz .u64 (.v 0) (.c (.ofNat 0))))))) (.c (.ofNat 1))))
def e6 : BE := (.le (.c (.ofNat 0)) (.wrap .u64 (.bin .sub .u64 (.c (.ofNat 63)) (.wrap .u64 (.bin .tz .u64 (.v 0) (.c (.ofNat 0)))))))
def e7 : BE := (.not (.eq (.wrap .u64 (.bin .shl .u64 (.v 0) (.wrap .u64 (.bin .sub .u64 (.c (.ofNat 63)) (.wrap .u64 (.bin .tz .u64 (.v 0) (.c (.ofNat 0)))))))) (.c (.ofNat 9223372036854775808))))
def e8 : BE := (.not (.eq (.wrap .u64 (.wrap .i64 (.wrap .i32 (.wrap .u32 (.v 0))))) (.wrap .u64 (.wrap .i64 (.wrap .i32 (.v 0))))))
def run (pc : List (BE × Bool)) : Option BE := resE (evCall { cxr with pc := pc } 100000 9 [.i .u64 (.v 0)] (.mk .nil 1000 .off))
def dt : DT := (.fork e0 (.fork e1 (.fork e2 .out (.fork e3 (.leaf (.c true)) (.fork e4 (.fork e5 .out (.fork e6 (.fork e7 .out (.fork e8 .out (.leaf (.c true)))) .out)) .out))) .out) .out)
end
end Go.Vm.VNumBits
