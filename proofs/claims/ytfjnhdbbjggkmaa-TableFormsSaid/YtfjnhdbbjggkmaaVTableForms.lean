/- The law TableForms: its call answers true. -/
import Derived.Test.YtfjnhdbbjggkmaaVTableFormsL0
import Derived.Test.YtfjnhdbbjggkmaaNTableForms
import Derived.DataShut
set_option linter.unusedVariables false
set_option linter.unusedSimpArgs false
namespace Go.Vm.VTableForms
open Go.Vm Go.Proofs Go.RowKit
theorem cov : Covers run dt [] := (cov_leaf l0)
theorem calls (W : World) : Calls Try.prog 11 #[] W fun e W' => e = .returned (.bool true) ∧ Below W.heap.size W W' := by
  exact tree_calls (env := fun _ => 0) hT_b mixed_ok hF_b (by decide) cov (holds ) (rel_nil _ W) .nil
#print axioms calls
end Go.Vm.VTableForms
