/- The law MemGrows: the cases of its run, and the run. -/
import Derived.Test.YtfjnhdbbjggkmaaVmSum
set_option linter.unusedVariables false
set_option linter.unusedSimpArgs false
namespace Go.Vm.VMemGrows
open Go.Vm Go.Proofs
noncomputable section
def e0 : BE := (.eq (.bin .and .u64 (.v 1) (.c (.ofNat 4294967295))) (.c (.ofNat 0)))
def e1 : BE := (.eq (.v 0) (.c (.ofNat 1)))
def e2 : BE := (.eq (.v 3) (.c (.ofNat 1)))
def e3 : BE := (.lt (.bin .min .u64 (.c (.ofNat 1)) (.wrap .u64 (.v 2))) (.c (.ofNat 1)))
def e4 : BE := (.lt (.c (.ofNat 1)) (.wrap .u64 (.bin .add .u64 (.c (.ofNat 1)) (.bin .tmod .u64 (.v 1) (.c (.ofNat 4294967296))))))
def e5 : BE := (.lt (.wrap .u64 (.v 2)) (.wrap .u64 (.bin .add .u64 (.c (.ofNat 1)) (.bin .tmod .u64 (.v 1) (.c (.ofNat 4294967296))))))
def e6 : BE := (.lt (.wrap .u64 (.bin .sub .u64 (.bin .min .u64 (.c (.ofNat 1)) (.wrap .u64 (.v 2))) (.c (.ofNat 1)))) (.c (.ofNat 0)))
def e7 : BE := (.not (.eq (.c (.ofNat 65536)) (.wrap .u64 (.bin .mul .u64 (.wrap .u64 (.bin .add .u64 (.c (.ofNat 1)) (.bin .tmod .u64 (.v 1) (.c (.ofNat 4294967296))))) (.c (.ofNat 65536))))))
def e8 : BE := (.lt (.bin .min .u64 (.c (.ofNat 1)) (.wrap .u64 (.v 2))) (.c (.ofNat 0)))
def e9 : BE := (.lt (.wrap .u64 (.bin .sub .u64 (.bin .min .u64 (.c (.ofNat 1)) (.wrap .u64 (.v 2))) (.c (.ofNat 0)))) (.c (.ofNat 0)))
def e10 : BE := (.lt (.c (.ofNat 1)) (.wrap .u64 (.bin .add .u64 (.c (.ofNat 0)) (.bin .tmod .u64 (.v 1) (.c (.ofNat 4294967296))))))
def e11 : BE := (.lt (.wrap .u64 (.v 2)) (.wrap .u64 (.bin .add .u64 (.c (.ofNat 0)) (.bin .tmod .u64 (.v 1) (.c (.ofNat 4294967296))))))
def e12 : BE := (.not (.eq (.c (.ofNat 0)) (.wrap .u64 (.bin .mul .u64 (.wrap .u64 (.bin .add .u64 (.c (.ofNat 0)) (.bin .tmod .u64 (.v 1) (.c (.ofNat 4294967296))))) (.c (.ofNat 65536))))))
def e13 : BE := (.eq (.bin .and .u64 (.v 1) (.c (.ofNat 4294967295))) (.c (.ofNat 1)))
def e14 : BE := (.lt (.wrap .u64 (.bin .sub .u64 (.bin .min .u64 (.c (.ofNat 1)) (.wrap .u64 (.v 2))) (.c (.ofNat 1)))) (.c (.ofNat 1)))
def e15 : BE := (.lt (.wrap .u64 (.bin .sub .u64 (.bin .min .u64 (.c (.ofNat 1)) (.wrap .u64 (.v 2))) (.c (.ofNat 0)))) (.c (.ofNat 1)))
def e16 : BE := (.not (.eq (.c (.ofNat 65536)) (.wrap .u64 (.bin .mul .u64 (.wrap .u64 (.bin .add .u64 (.c (.ofNat 0)) (.bin .tmod .u64 (.v 1) (.c (.ofNat 4294967296))))) (.c (.ofNat 65536))))))
def e17 : BE := (.lt (.wrap .u64 (.bin .sub .u64 (.bin .min .u64 (.c (.ofNat 1)) (.wrap .u64 (.v 2))) (.c (.ofNat 1)))) (.bin .and .u64 (.v 1) (.c (.ofNat 4294967295))))
def e18 : BE := (.lt (.c (.ofNat 0)) (.bin .and .u64 (.v 1) (.c (.ofNat 4294967295))))
def e19 : BE := (.lt (.wrap .u64 (.bin .sub .u64 (.bin .min .u64 (.c (.ofNat 1)) (.wrap .u64 (.v 2))) (.c (.ofNat 0)))) (.bin .and .u64 (.v 1) (.c (.ofNat 4294967295))))
def e20 : BE := (.lt (.c (.ofNat 1)) (.bin .and .u64 (.v 1) (.c (.ofNat 4294967295))))
def run (pc : List (BE × Bool)) : Option BE := resE (evCall { cxb with pc := pc } 100000 5 [.b (.eq (.v 0) (.c (.ofNat 1))), .i .u64 (.v 1), .i .u32 (.v 2), .b (.eq (.v 3) (.c (.ofNat 1)))] (.mk .nil 1000 .off))
def dt : DT := (.fork e0 (.fork e1 (.fork e2 (.fork e3 (.fork e4 (.leaf (.c true)) (.fork e5 (.leaf (.c true)) .out)) (.fork e6 .out (.fork e4 .out (.fork e5 .out (.fork e7 .out (.leaf (.c true))))))) (.fork e4 .out (.fork e7 .out (.leaf (.c true))))) (.fork e2 (.fork e8 .out (.fork e9 .out (.fork e10 .out (.fork e11 .out (.fork e12 .out (.leaf (.c true))))))) (.fork e10 .out (.fork e12 .out (.leaf (.c true)))))) (.fork e13 (.fork e1 (.fork e2 (.fork e3 (.fork e4 (.leaf (.c true)) (.fork e5 (.leaf (.c true)) .out)) (.fork e14 (.fork e4 (.leaf (.c true)) (.fork e5 (.leaf (.c true)) .out)) .out)) (.fork e4 (.leaf (.c true)) .out)) (.fork e2 (.fork e8 .out (.fork e15 (.fork e10 (.leaf (.c true)) (.fork e11 (.leaf (.c true)) .out)) (.fork e10 .out (.fork e11 .out (.fork e16 .out (.leaf (.c true))))))) (.fork e10 .out (.fork e16 .out (.leaf (.c true)))))) (.fork e1 (.fork e2 (.fork e3 (.fork e4 (.leaf (.c true)) (.fork e5 (.leaf (.c true)) .out)) (.fork e17 (.fork e4 (.leaf (.c true)) (.fork e5 (.leaf (.c true)) .out)) .out)) (.fork e18 (.fork e4 (.leaf (.c true)) .out) .out)) (.fork e2 (.fork e8 .out (.fork e19 (.fork e10 (.leaf (.c true)) (.fork e11 (.leaf (.c true)) .out)) .out)) (.fork e20 (.fork e10 (.leaf (.c true)) .out) .out)))))
end
end Go.Vm.VMemGrows
