/- The law CallNone: its call answers true. -/
import Derived.Test.YtkmlhhiialbfgaaGreatDoorVCallNoneL0
import Derived.Test.YtkmlhhiialbfgaaGreatDoorNCallNone
import Derived.DataShut
set_option linter.unusedVariables false
set_option linter.unusedSimpArgs false
namespace Go.Vm.VCallNone
open Go.Vm Go.Proofs Go.RowKit
theorem cov : Covers run dt [] := (cov_leaf l0)
theorem calls (W : World) : Calls Tryz.prog 3 #[] W fun e W' => e = .returned (.bool true) ∧ Below W.heap.size W W' := by
  exact tree_calls (env := fun _ => 0) hT_b mixed_ok hF_b (by decide) cov (holds ) (rel_nil _ W) .nil
#print axioms calls
end Go.Vm.VCallNone
