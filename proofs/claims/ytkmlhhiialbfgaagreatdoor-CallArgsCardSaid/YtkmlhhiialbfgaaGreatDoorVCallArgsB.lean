/- The law CallArgs: the cases of its run, and the run, by the length of what came in. -/
import Derived.Test.YtkmlhhiialbfgaaGreatDoorVmSum
import Derived.Test.YtkmlhhiialbfgaaGreatDoorVmArgs
set_option linter.unusedVariables false
set_option linter.unusedSimpArgs false
namespace Go.Vm.VCallArgs
open Go.Vm Go.Proofs
noncomputable section
def e0 : BE := (.eq (.bin .tmod .i64 (.wrap .i64 (.v 0)) (.c (.ofNat 10))) (.c (.ofNat 0)))
def e1 : BE := (.eq (.bin .tmod .i64 (.wrap .i64 (.v 0)) (.c (.ofNat 10))) (.c (.ofNat 1)))
def e2 : BE := (.eq (.bin .tmod .i64 (.wrap .i64 (.v 0)) (.c (.ofNat 10))) (.c (.ofNat 2)))
def e3 : BE := (.eq (.bin .tmod .i64 (.wrap .i64 (.v 0)) (.c (.ofNat 10))) (.c (.ofNat 3)))
def e4 : BE := (.eq (.bin .tmod .i64 (.wrap .i64 (.v 0)) (.c (.ofNat 10))) (.c (.ofNat 4)))
def e5 : BE := (.eq (.bin .tmod .i64 (.wrap .i64 (.v 0)) (.c (.ofNat 10))) (.c (.ofNat 5)))
def e6 : BE := (.eq (.bin .tmod .i64 (.wrap .i64 (.v 0)) (.c (.ofNat 10))) (.c (.ofNat 6)))
def e7 : BE := (.eq (.bin .tmod .i64 (.wrap .i64 (.v 0)) (.c (.ofNat 10))) (.c (.ofNat 7)))
def e8 : BE := (.eq (.bin .tmod .i64 (.wrap .i64 (.v 0)) (.c (.ofNat 10))) (.c (.ofNat 8)))
def e9 : BE := (.eq (.bin .tmod .i64 (.wrap .i64 (.v 0)) (.c (.ofNat 10))) (.c (.ofNat 9)))
def e10 : BE := (.lt (.c (.ofNat 4294967295)) (.v 1000))
def e11 : BE := (.lt (.c (.ofNat 4294967295)) (.v 1001))
def run_0 (pc : List (BE × Bool)) : Option BE := resE (evCall { cxb with pc := pc } 100000 4 [.i .u8 (.v 0), .sl (some (8, 0)) 0 0] (.mk (Tr.set .nil 8 (.cells 32 1 false true (RL.ofList []))) 1000 .off))
def dt_0 : DT := (.fork e0 (.leaf (.c true)) (.fork e1 (.leaf (.c true)) (.fork e2 (.leaf (.c true)) (.fork e3 (.leaf (.c true)) (.fork e4 (.leaf (.c true)) (.fork e5 (.leaf (.c true)) (.fork e6 (.leaf (.c true)) (.fork e7 (.leaf (.c true)) (.fork e8 (.leaf (.c true)) (.fork e9 (.leaf (.c true)) .out))))))))))
def run_1 (pc : List (BE × Bool)) : Option BE := resE (evCall { cxb with pc := pc } 100000 4 [.i .u8 (.v 0), .sl (some (8, 0)) 1 1] (.mk (Tr.set .nil 8 (.cells 32 1 false true (RL.ofList [.i .u64 (.v 1000)]))) 1000 .off))
def dt_1 : DT := (.fork e0 (.fork e10 (.leaf (.c true)) (.leaf (.c true))) (.fork e1 (.leaf (.c true)) (.fork e2 (.leaf (.c true)) (.fork e3 (.leaf (.c true)) (.fork e4 (.leaf (.c true)) (.fork e5 (.fork e10 (.leaf (.c true)) (.leaf (.c true))) (.fork e6 (.fork e10 (.leaf (.c true)) (.leaf (.c true))) (.fork e7 (.leaf (.c true)) (.fork e8 (.leaf (.c true)) (.fork e9 (.leaf (.c true)) .out))))))))))
def run_2 (pc : List (BE × Bool)) : Option BE := resE (evCall { cxb with pc := pc } 100000 4 [.i .u8 (.v 0), .sl (some (8, 0)) 2 2] (.mk (Tr.set .nil 8 (.cells 32 1 false true (RL.ofList [.i .u64 (.v 1000), .i .u64 (.v 1001)]))) 1000 .off))
def dt_2 : DT := (.fork e0 (.leaf (.c true)) (.fork e1 (.leaf (.c true)) (.fork e2 (.leaf (.c true)) (.fork e3 (.leaf (.c true)) (.fork e4 (.fork e10 (.leaf (.c true)) (.fork e11 (.leaf (.c true)) (.leaf (.c true)))) (.fork e5 (.leaf (.c true)) (.fork e6 (.leaf (.c true)) (.fork e7 (.leaf (.c true)) (.fork e8 (.leaf (.c true)) (.fork e9 (.leaf (.c true)) .out))))))))))
def run_3 (pc : List (BE × Bool)) : Option BE := resE (evCall { cxb with pc := pc } 100000 4 [.i .u8 (.v 0), .sl (some (8, 0)) 3 3] (.mk (Tr.set .nil 8 (.cells 32 1 false true (RL.ofList [.i .u64 (.v 1000), .i .u64 (.v 1001), .i .u64 (.v 1002)]))) 1000 .off))
def dt_3 : DT := (.fork e0 (.leaf (.c true)) (.fork e1 (.leaf (.c true)) (.fork e2 (.leaf (.c true)) (.fork e3 (.leaf (.c true)) (.fork e4 (.leaf (.c true)) (.fork e5 (.leaf (.c true)) (.fork e6 (.leaf (.c true)) (.fork e7 (.leaf (.c true)) (.fork e8 (.leaf (.c true)) (.fork e9 (.leaf (.c true)) .out))))))))))
def run_4 (pc : List (BE × Bool)) : Option BE := resE (evCall { cxb with pc := pc } 100000 4 [.i .u8 (.v 0), .sl (some (8, 0)) 4 4] (.mk (Tr.set .nil 8 (.cells 32 1 false true (RL.ofList [.i .u64 (.v 1000), .i .u64 (.v 1001), .i .u64 (.v 1002), .i .u64 (.v 1003)]))) 1000 .off))
def dt_4 : DT := (.fork e0 (.leaf (.c true)) (.fork e1 (.leaf (.c true)) (.fork e2 (.leaf (.c true)) (.fork e3 (.leaf (.c true)) (.fork e4 (.leaf (.c true)) (.fork e5 (.leaf (.c true)) (.fork e6 (.leaf (.c true)) (.fork e7 (.leaf (.c true)) (.fork e8 (.leaf (.c true)) (.fork e9 (.leaf (.c true)) .out))))))))))
def run_5 (pc : List (BE × Bool)) : Option BE := resE (evCall { cxb with pc := pc } 100000 4 [.i .u8 (.v 0), .sl (some (8, 0)) 5 5] (.mk (Tr.set .nil 8 (.cells 32 1 false true (RL.ofList [.i .u64 (.v 1000), .i .u64 (.v 1001), .i .u64 (.v 1002), .i .u64 (.v 1003), .i .u64 (.v 1004)]))) 1000 .off))
def dt_5 : DT := (.fork e0 (.leaf (.c true)) (.fork e1 (.leaf (.c true)) (.fork e2 (.leaf (.c true)) (.fork e3 (.leaf (.c true)) (.fork e4 (.leaf (.c true)) (.fork e5 (.leaf (.c true)) (.fork e6 (.leaf (.c true)) (.fork e7 (.leaf (.c true)) (.fork e8 (.leaf (.c true)) (.fork e9 (.leaf (.c true)) .out))))))))))
def run_6 (pc : List (BE × Bool)) : Option BE := resE (evCall { cxb with pc := pc } 100000 4 [.i .u8 (.v 0), .sl (some (8, 0)) 6 6] (.mk (Tr.set .nil 8 (.cells 32 1 false true (RL.ofList [.i .u64 (.v 1000), .i .u64 (.v 1001), .i .u64 (.v 1002), .i .u64 (.v 1003), .i .u64 (.v 1004), .i .u64 (.v 1005)]))) 1000 .off))
def dt_6 : DT := (.fork e0 (.leaf (.c true)) (.fork e1 (.leaf (.c true)) (.fork e2 (.leaf (.c true)) (.fork e3 (.leaf (.c true)) (.fork e4 (.leaf (.c true)) (.fork e5 (.leaf (.c true)) (.fork e6 (.leaf (.c true)) (.fork e7 (.leaf (.c true)) (.fork e8 (.leaf (.c true)) (.fork e9 (.leaf (.c true)) .out))))))))))
def run_nil (pc : List (BE × Bool)) : Option BE := resE (evCall { cxb with pc := pc } 100000 4 [.i .u8 (.v 0), .sl none 0 0] (.mk .nil 1000 .off))
def dt_nil : DT := (.fork e0 (.leaf (.c true)) (.fork e1 (.leaf (.c true)) (.fork e2 (.leaf (.c true)) (.fork e3 (.leaf (.c true)) (.fork e4 (.leaf (.c true)) (.fork e5 (.leaf (.c true)) (.fork e6 (.leaf (.c true)) (.fork e7 (.leaf (.c true)) (.fork e8 (.leaf (.c true)) (.fork e9 (.leaf (.c true)) .out))))))))))
def run_big (m : Nat) (pc : List (BE × Bool)) : Option BE := resE (evCall { cxb with pc := pc } 100000 4 [.i .u8 (.v 0), .sl (some (8, 0)) (m + 7) (m + 7)] (.mk (Tr.set .nil 8 (.cells 32 1 false false [])) 1000 .off))
end
end Go.Vm.VCallArgs
