/- The law StepConverts: the cases of its run, and the run. -/
import Derived.Test.YtjbfdmhldofeiaaGreatDoorVmSum
set_option linter.unusedVariables false
set_option linter.unusedSimpArgs false
namespace Go.Vm.VStepConverts
open Go.Vm Go.Proofs
noncomputable section
def e0 : BE := (.not (.eq (.wrap .u64 (.wrap .i64 (.wrap .i32 (.wrap .u32 (.wrap .u64 (.wrap .u32 (.v 0))))))) (.wrap .u64 (.wrap .i64 (.wrap .i32 (.v 0))))))
def e1 : BE := (.not (.eq (.wrap .u64 (.wrap .u32 (.wrap .u64 (.wrap .u32 (.v 0))))) (.wrap .u64 (.wrap .u32 (.v 0)))))
def e2 : BE := (.not (.eq (.wrap .u64 (.wrap .u32 (.wrap .i32 (.wrap .i8 (.wrap .u64 (.wrap .u32 (.v 0))))))) (.wrap .u64 (.wrap .u32 (.wrap .i32 (.wrap .i8 (.v 0)))))))
def run (pc : List (BE × Bool)) : Option BE := resE (evCall { cxb with pc := pc } 100000 14 [.i .u64 (.v 0)] (.mk .nil 1000 .off))
def dt : DT := (.fork e0 .out (.fork e1 .out (.fork e2 .out (.leaf (.c true)))))
end
end Go.Vm.VStepConverts
