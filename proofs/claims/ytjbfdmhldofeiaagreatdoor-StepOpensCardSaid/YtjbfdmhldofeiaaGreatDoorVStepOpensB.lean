/- The law StepOpens: the cases of its run, and the run. -/
import Derived.Test.YtjbfdmhldofeiaaGreatDoorVmSum
set_option linter.unusedVariables false
set_option linter.unusedSimpArgs false
namespace Go.Vm.VStepOpens
open Go.Vm Go.Proofs
noncomputable section
def e0 : BE := (.eq (.bin .tmod .u8 (.v 2) (.c (.ofNat 20))) (.c (.ofNat 0)))
def e1 : BE := (.not (.eq (.bin .and .u64 (.v 0) (.c (.ofNat 4294967295))) (.bin .tmod .u64 (.v 0) (.c (.ofNat 4294967296)))))
def e2 : BE := (.eq (.bin .tmod .u8 (.v 2) (.c (.ofNat 20))) (.c (.ofNat 1)))
def e3 : BE := (.eq (.bin .tmod .u8 (.v 2) (.c (.ofNat 20))) (.c (.ofNat 2)))
def e4 : BE := (.eq (.bin .tmod .u8 (.v 2) (.c (.ofNat 20))) (.c (.ofNat 3)))
def e5 : BE := (.eq (.bin .tmod .u8 (.v 2) (.c (.ofNat 20))) (.c (.ofNat 4)))
def e6 : BE := (.eq (.bin .tmod .u8 (.v 2) (.c (.ofNat 20))) (.c (.ofNat 5)))
def e7 : BE := (.eq (.bin .tmod .u8 (.v 2) (.c (.ofNat 20))) (.c (.ofNat 6)))
def e8 : BE := (.eq (.bin .tmod .u8 (.v 2) (.c (.ofNat 20))) (.c (.ofNat 7)))
def e9 : BE := (.eq (.bin .tmod .u8 (.v 2) (.c (.ofNat 20))) (.c (.ofNat 8)))
def e10 : BE := (.eq (.bin .tmod .u8 (.v 2) (.c (.ofNat 20))) (.c (.ofNat 9)))
def e11 : BE := (.eq (.bin .tmod .u8 (.v 2) (.c (.ofNat 20))) (.c (.ofNat 10)))
def e12 : BE := (.eq (.bin .tmod .u8 (.v 2) (.c (.ofNat 20))) (.c (.ofNat 11)))
def e13 : BE := (.eq (.bin .tmod .u8 (.v 2) (.c (.ofNat 20))) (.c (.ofNat 12)))
def e14 : BE := (.eq (.bin .tmod .u8 (.v 2) (.c (.ofNat 20))) (.c (.ofNat 13)))
def e15 : BE := (.eq (.bin .tmod .u8 (.v 2) (.c (.ofNat 20))) (.c (.ofNat 14)))
def e16 : BE := (.eq (.bin .tmod .u8 (.v 2) (.c (.ofNat 20))) (.c (.ofNat 15)))
def e17 : BE := (.eq (.bin .tmod .u8 (.v 2) (.c (.ofNat 20))) (.c (.ofNat 16)))
def e18 : BE := (.eq (.bin .tmod .u8 (.v 2) (.c (.ofNat 20))) (.c (.ofNat 17)))
def e19 : BE := (.eq (.bin .tmod .u8 (.v 2) (.c (.ofNat 20))) (.c (.ofNat 18)))
def e20 : BE := (.eq (.bin .tmod .u8 (.v 2) (.c (.ofNat 20))) (.c (.ofNat 19)))
def run (pc : List (BE × Bool)) : Option BE := resE (evCall { cxb with pc := pc } 100000 13 [.i .u64 (.v 0), .i .u64 (.v 1), .i .u8 (.v 2)] (.mk .nil 1000 .off))
def dt : DT := (.fork e0 (.fork e1 .out (.leaf (.c true))) (.fork e2 (.fork e1 .out (.leaf (.c true))) (.fork e3 (.fork e1 .out (.leaf (.c true))) (.fork e4 (.fork e1 .out (.leaf (.c true))) (.fork e5 (.fork e1 .out (.leaf (.c true))) (.fork e6 (.fork e1 .out (.leaf (.c true))) (.fork e7 (.fork e1 .out (.leaf (.c true))) (.fork e8 (.fork e1 .out (.leaf (.c true))) (.fork e9 (.fork e1 .out (.leaf (.c true))) (.fork e10 (.fork e1 .out (.leaf (.c true))) (.fork e11 (.fork e1 .out (.leaf (.c true))) (.fork e12 (.fork e1 .out (.leaf (.c true))) (.fork e13 (.fork e1 .out (.leaf (.c true))) (.fork e14 (.fork e1 .out (.leaf (.c true))) (.fork e15 (.fork e1 .out (.leaf (.c true))) (.fork e16 (.fork e1 .out (.leaf (.c true))) (.fork e17 (.fork e1 .out (.leaf (.c true))) (.fork e18 (.fork e1 .out (.leaf (.c true))) (.fork e19 (.fork e1 .out (.leaf (.c true))) (.fork e20 (.fork e1 .out (.leaf (.c true))) .out))))))))))))))))))))
end
end Go.Vm.VStepOpens
