/- The law MemFits: the cases of its run, and the run. -/
import Derived.Test.YtfjnhdbbjggkmaaVmSum
set_option linter.unusedVariables false
set_option linter.unusedSimpArgs false
namespace Go.Vm.VMemFits
open Go.Vm Go.Proofs
noncomputable section
def e0 : BE := (.le (.c (.ofNat 0)) (.v 0))
def e1 : BE := (.le (.v 1) (.wrap .u64 (.v 0)))
def e2 : BE := (.lt (.v 0) (.c (.ofNat 0)))
def e3 : BE := (.le (.v 2) (.wrap .u64 (.bin .sub .u64 (.wrap .u64 (.v 0)) (.v 1))))
def run (pc : List (BE × Bool)) : Option BE := resE (evCall { cxb with pc := pc } 100000 4 [.i .i64 (.v 0), .i .u64 (.v 1), .i .u64 (.v 2)] (.mk .nil 1000 .off))
def dt : DT := (.fork e0 (.fork e1 (.fork e2 .out (.fork e3 (.leaf (.c true)) (.leaf (.c true)))) (.fork e2 .out (.leaf (.c true)))) (.fork e2 (.leaf (.c true)) .out))
end
end Go.Vm.VMemFits
