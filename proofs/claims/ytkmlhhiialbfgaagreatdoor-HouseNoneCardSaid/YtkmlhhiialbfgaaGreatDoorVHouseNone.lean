/- The law HouseNone: its call answers true. -/
import Derived.Test.YtkmlhhiialbfgaaGreatDoorVHouseNoneL0
import Derived.Test.YtkmlhhiialbfgaaGreatDoorNHouseNone
import Derived.DataShut
set_option linter.unusedVariables false
set_option linter.unusedSimpArgs false
namespace Go.Vm.VHouseNone
open Go.Vm Go.Proofs Go.RowKit
theorem cov : Covers run dt [] := (cov_leaf l0)
theorem calls (W : World) : Calls Tryz.prog 6 #[] W fun e W' => e = .returned (.bool true) ∧ Below W.heap.size W W' := by
  exact tree_calls (env := fun _ => 0) hT_b mixed_ok hF_b (by decide) cov (holds ) (rel_nil _ W) .nil
#print axioms calls
end Go.Vm.VHouseNone
