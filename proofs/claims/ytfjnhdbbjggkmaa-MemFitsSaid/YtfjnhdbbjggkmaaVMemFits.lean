/- The law MemFits: its call answers true. -/
import Derived.Test.YtfjnhdbbjggkmaaVMemFitsL0
import Derived.Test.YtfjnhdbbjggkmaaNMemFits
import Derived.DataShut
set_option linter.unusedVariables false
set_option linter.unusedSimpArgs false
namespace Go.Vm.VMemFits
open Go.Vm Go.Proofs Go.RowKit
theorem cov : Covers run dt [] := (cov_fork (cov_fork (cov_fork cov_out (cov_fork (cov_leaf l0) (cov_leaf l1))) (cov_fork cov_out (cov_leaf l2))) (cov_fork (cov_leaf l3) cov_out))
theorem calls (n0 : Int) (w0 : (Lit.int .i64 n0).wf = true) (n1 : Int) (w1 : (Lit.int .u64 n1).wf = true) (n2 : Int) (w2 : (Lit.int .u64 n2).wf = true) (W : World) : Calls Try.prog 4 #[.int .i64 n0, .int .u64 n1, .int .u64 n2] W fun e W' => e = .returned (.bool true) ∧ Below W.heap.size W W' := by
  have r0 := (Lit.wf_int_iff _ _).1 w0
  have m0 : IntKind.min .i64 = -9223372036854775808 := by decide
  have x0 : IntKind.max .i64 = 9223372036854775807 := by decide
  rw [m0, x0] at r0
  have r1 := (Lit.wf_int_iff _ _).1 w1
  have m1 : IntKind.min .u64 = 0 := by decide
  have x1 : IntKind.max .u64 = 18446744073709551615 := by decide
  rw [m1, x1] at r1
  have r2 := (Lit.wf_int_iff _ _).1 w2
  have m2 : IntKind.min .u64 = 0 := by decide
  have x2 : IntKind.max .u64 = 18446744073709551615 := by decide
  rw [m2, x2] at r2
  exact tree_calls (env := fun i => match i with | 0 => n0 | 1 => n1 | 2 => n2 | _ => 0) hT_b mixed_ok hF_b (by decide) cov (holds r0.1 r0.2 r1.1 r1.2 r2.1 r2.2) (rel_nil _ W) (.cons _ _ _ _ (VR.i .i64 (.v 0)) (.cons _ _ _ _ (VR.i .u64 (.v 1)) (.cons _ _ _ _ (VR.i .u64 (.v 2)) .nil)))
#print axioms calls
end Go.Vm.VMemFits
