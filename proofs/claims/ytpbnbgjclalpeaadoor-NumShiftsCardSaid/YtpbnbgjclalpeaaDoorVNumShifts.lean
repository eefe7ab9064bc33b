/- The law NumShifts: its call answers true. -/
import Derived.Test.YtpbnbgjclalpeaaDoorVNumShiftsL0
import Derived.Test.YtpbnbgjclalpeaaDoorNNumShifts
import Derived.DataShut
set_option linter.unusedVariables false
set_option linter.unusedSimpArgs false
namespace Go.Vm.VNumShifts
open Go.Vm Go.Proofs Go.RowKit
theorem cov : Covers run dt [] := (cov_fork (cov_fork (cov_fork (cov_fork cov_out (cov_fork cov_out (cov_fork cov_out (cov_fork (cov_fork cov_out (cov_fork cov_out (cov_fork cov_out (cov_fork (cov_fork (cov_fork (cov_fork (cov_fork (cov_fork (cov_fork (cov_fork (cov_fork (cov_leaf l0) cov_out) cov_out) cov_out) cov_out) cov_out) cov_out) cov_out) cov_out) cov_out)))) cov_out)))) cov_out) cov_out) cov_out)
theorem calls (n0 : Int) (w0 : (Lit.int .u64 n0).wf = true) (n1 : Int) (w1 : (Lit.int .u64 n1).wf = true) (W : World) : Calls Tryd.prog 7 #[.int .u64 n0, .int .u64 n1] W fun e W' => e = .returned (.bool true) ∧ Below W.heap.size W W' := by
  have r0 := (Lit.wf_int_iff _ _).1 w0
  have m0 : IntKind.min .u64 = 0 := by decide
  have x0 : IntKind.max .u64 = 18446744073709551615 := by decide
  rw [m0, x0] at r0
  have r1 := (Lit.wf_int_iff _ _).1 w1
  have m1 : IntKind.min .u64 = 0 := by decide
  have x1 : IntKind.max .u64 = 18446744073709551615 := by decide
  rw [m1, x1] at r1
  exact tree_calls (env := fun i => match i with | 0 => n0 | 1 => n1 | _ => 0) hT_b mixed_ok hF_b (by decide) cov (holds r0.1 r0.2 r1.1 r1.2) (rel_nil _ W) (.cons _ _ _ _ (VR.i .u64 (.v 0)) (.cons _ _ _ _ (VR.i .u64 (.v 1)) .nil))
#print axioms calls
end Go.Vm.VNumShifts
