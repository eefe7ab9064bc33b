/- The law StepTables: the cases of its run, and the run. -/
import Derived.Test.YtjbfdmhldofeiaaGreatDoorVmSum
set_option linter.unusedVariables false
set_option linter.unusedSimpArgs false
namespace Go.Vm.VStepTables
open Go.Vm Go.Proofs
noncomputable section
def e0 : BE := (.eq (.bin .tmod .u8 (.v 1) (.c (.ofNat 5))) (.c (.ofNat 0)))
def e1 : BE := (.eq (.v 0) (.c (.ofNat 0)))
def e2 : BE := (.eq (.v 0) (.c (.ofNat 1)))
def e3 : BE := (.eq (.v 0) (.c (.ofNat 2)))
def e4 : BE := (.eq (.v 0) (.c (.ofNat 3)))
def e5 : BE := (.lt (.wrap .u64 (.wrap .u32 (.wrap .u64 (.v 0)))) (.c (.ofNat 0)))
def e6 : BE := (.not (.eq (.c (.ofNat 100)) (.wrap .u64 (.bin .add .u64 (.c (.ofNat 100)) (.bin .min .u64 (.wrap .u64 (.v 0)) (.c (.ofNat 0)))))))
def e7 : BE := (.eq (.bin .tmod .u8 (.v 1) (.c (.ofNat 5))) (.c (.ofNat 1)))
def e8 : BE := (.lt (.wrap .u64 (.wrap .u32 (.wrap .u64 (.v 0)))) (.c (.ofNat 1)))
def e9 : BE := (.not (.eq (.c (.ofNat 101)) (.wrap .u64 (.bin .add .u64 (.c (.ofNat 100)) (.bin .min .u64 (.wrap .u64 (.v 0)) (.c (.ofNat 1)))))))
def e10 : BE := (.eq (.bin .tmod .u8 (.v 1) (.c (.ofNat 5))) (.c (.ofNat 2)))
def e11 : BE := (.lt (.wrap .u64 (.wrap .u32 (.wrap .u64 (.v 0)))) (.c (.ofNat 2)))
def e12 : BE := (.not (.eq (.c (.ofNat 102)) (.wrap .u64 (.bin .add .u64 (.c (.ofNat 100)) (.bin .min .u64 (.wrap .u64 (.v 0)) (.c (.ofNat 2)))))))
def e13 : BE := (.eq (.bin .tmod .u8 (.v 1) (.c (.ofNat 5))) (.c (.ofNat 3)))
def e14 : BE := (.lt (.wrap .u64 (.wrap .u32 (.wrap .u64 (.v 0)))) (.c (.ofNat 3)))
def e15 : BE := (.not (.eq (.c (.ofNat 103)) (.wrap .u64 (.bin .add .u64 (.c (.ofNat 100)) (.bin .min .u64 (.wrap .u64 (.v 0)) (.c (.ofNat 3)))))))
def e16 : BE := (.eq (.bin .tmod .u8 (.v 1) (.c (.ofNat 5))) (.c (.ofNat 4)))
def e17 : BE := (.lt (.wrap .u64 (.wrap .u32 (.wrap .u64 (.v 0)))) (.c (.ofNat 4)))
def e18 : BE := (.not (.eq (.c (.ofNat 104)) (.wrap .u64 (.bin .add .u64 (.c (.ofNat 100)) (.bin .min .u64 (.wrap .u64 (.v 0)) (.c (.ofNat 4)))))))
def run (pc : List (BE × Bool)) : Option BE := resE (evCall { cxb with pc := pc } 100000 5 [.i .u32 (.v 0), .i .u8 (.v 1)] (.mk .nil 1000 .off))
def dt : DT := (.fork e0 (.fork e1 (.leaf (.c true)) (.fork e2 (.leaf (.c true)) (.fork e3 (.leaf (.c true)) (.fork e4 (.leaf (.c true)) (.fork e5 .out (.fork e6 .out (.leaf (.c true)))))))) (.fork e7 (.fork e1 (.leaf (.c true)) (.fork e2 (.leaf (.c true)) (.fork e3 (.leaf (.c true)) (.fork e4 (.leaf (.c true)) (.fork e8 .out (.fork e9 .out (.leaf (.c true)))))))) (.fork e10 (.fork e1 (.leaf (.c true)) (.fork e2 (.leaf (.c true)) (.fork e3 (.leaf (.c true)) (.fork e4 (.leaf (.c true)) (.fork e11 .out (.fork e12 .out (.leaf (.c true)))))))) (.fork e13 (.fork e1 (.leaf (.c true)) (.fork e2 (.leaf (.c true)) (.fork e3 (.leaf (.c true)) (.fork e4 (.leaf (.c true)) (.fork e14 .out (.fork e15 .out (.leaf (.c true)))))))) (.fork e16 (.fork e1 (.leaf (.c true)) (.fork e2 (.leaf (.c true)) (.fork e3 (.leaf (.c true)) (.fork e4 (.leaf (.c true)) (.fork e17 .out (.fork e18 .out (.leaf (.c true)))))))) .out)))))
end
end Go.Vm.VStepTables
