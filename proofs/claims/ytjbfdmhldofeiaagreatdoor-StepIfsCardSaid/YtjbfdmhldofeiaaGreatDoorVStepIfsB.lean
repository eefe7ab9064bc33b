/- The law StepIfs: the cases of its run, and the run. -/
import Derived.Test.YtjbfdmhldofeiaaGreatDoorVmSum
set_option linter.unusedVariables false
set_option linter.unusedSimpArgs false
namespace Go.Vm.VStepIfs
open Go.Vm Go.Proofs
noncomputable section
def e0 : BE := (.not (.eq (.bin .tmod .u64 (.v 0) (.c (.ofNat 4294967296))) (.c (.ofNat 0))))
def e1 : BE := (.eq (.wrap .u32 (.bin .tmod .u64 (.v 0) (.c (.ofNat 4294967296)))) (.c (.ofNat 0)))
def run (pc : List (BE × Bool)) : Option BE := resE (evCall { cxb with pc := pc } 100000 4 [.i .u64 (.v 0)] (.mk .nil 1000 .off))
def dt : DT := (.fork e0 (.fork e1 .out (.leaf (.c true))) (.fork e1 (.leaf (.c true)) .out))
end
end Go.Vm.VStepIfs
