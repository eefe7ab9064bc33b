/- The law CallNone: the cases of its run, and the run. -/
import Derived.Test.YtkmlhhiialbfgaaGreatDoorVmSum
set_option linter.unusedVariables false
set_option linter.unusedSimpArgs false
namespace Go.Vm.VCallNone
open Go.Vm Go.Proofs
noncomputable section
def run (pc : List (BE × Bool)) : Option BE := resE (evCall { cxb with pc := pc } 100000 3 [] (.mk .nil 1000 .off))
def dt : DT := (.leaf (.c true))
end
end Go.Vm.VCallNone
