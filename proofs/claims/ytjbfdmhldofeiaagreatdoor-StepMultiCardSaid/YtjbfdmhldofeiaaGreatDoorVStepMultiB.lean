/- The law StepMulti: the cases of its run, and the run. -/
import Derived.Test.YtjbfdmhldofeiaaGreatDoorVmSum
set_option linter.unusedVariables false
set_option linter.unusedSimpArgs false
namespace Go.Vm.VStepMulti
open Go.Vm Go.Proofs
noncomputable section
def e0 : BE := (.not (.eq (.bin .and .u64 (.bin .and .u64 (.bin .and .u64 (.bin .and .u64 (.wrap .u64 (.v 1)) (.c (.ofNat 4294967295))) (.c (.ofNat 4294967295))) (.c (.ofNat 4294967295))) (.c (.ofNat 4294967295))) (.wrap .u64 (.v 1))))
def e1 : BE := (.not (.eq (.bin .and .u64 (.bin .and .u64 (.bin .and .u64 (.bin .and .u64 (.wrap .u64 (.v 0)) (.c (.ofNat 4294967295))) (.c (.ofNat 4294967295))) (.c (.ofNat 4294967295))) (.c (.ofNat 4294967295))) (.wrap .u64 (.v 0))))
def e2 : BE := (.not (.eq (.bin .and .u64 (.wrap .u64 (.v 0)) (.c (.ofNat 4294967295))) (.wrap .u64 (.v 0))))
def run (pc : List (BE × Bool)) : Option BE := resE (evCall { cxb with pc := pc } 100000 11 [.i .u32 (.v 0), .i .u32 (.v 1)] (.mk .nil 1000 .off))
def dt : DT := (.fork e0 .out (.fork e1 .out (.fork e2 .out (.leaf (.c true)))))
end
end Go.Vm.VStepMulti
