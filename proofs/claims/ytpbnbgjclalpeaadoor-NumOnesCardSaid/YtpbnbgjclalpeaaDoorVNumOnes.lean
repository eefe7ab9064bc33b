/- The law NumOnes: its call answers true. -/
import Derived.Test.YtpbnbgjclalpeaaDoorVNumOnesL0
import Derived.Test.YtpbnbgjclalpeaaDoorNNumOnes
import Derived.DataShut
set_option linter.unusedVariables false
set_option linter.unusedSimpArgs false
namespace Go.Vm.VNumOnes
open Go.Vm Go.Proofs Go.RowKit
theorem cov : Covers run dt [] := (cov_fork (cov_fork (cov_fork (cov_fork (cov_fork (cov_leaf l0) cov_out) (cov_fork cov_out (cov_leaf l1))) (cov_fork (cov_fork (cov_leaf l2) (cov_leaf l3)) (cov_fork (cov_leaf l4) (cov_fork (cov_leaf l5) (cov_fork (cov_leaf l6) (cov_fork (cov_leaf l7) (cov_fork (cov_leaf l8) (cov_fork (cov_leaf l9) (cov_fork (cov_fork (cov_leaf l10) cov_out) (cov_fork (cov_fork (cov_leaf l11) cov_out) (cov_fork (cov_fork (cov_leaf l12) cov_out) (cov_fork (cov_fork (cov_leaf l13) cov_out) (cov_fork (cov_fork (cov_leaf l14) cov_out) (cov_fork (cov_fork (cov_leaf l15) cov_out) (cov_fork (cov_fork (cov_leaf l16) cov_out) (cov_fork (cov_fork (cov_leaf l17) cov_out) (cov_fork (cov_fork (cov_fork cov_out cov_out) (cov_fork (cov_fork (cov_fork cov_out cov_out) (cov_fork (cov_fork (cov_fork cov_out cov_out) (cov_fork (cov_fork cov_out (cov_fork (cov_fork cov_out (cov_fork (cov_fork cov_out (cov_fork (cov_fork cov_out (cov_leaf l18)) cov_out)) cov_out)) cov_out)) cov_out)) (cov_fork (cov_fork cov_out (cov_fork (cov_fork cov_out (cov_fork (cov_fork cov_out (cov_fork (cov_fork (cov_leaf l19) (cov_leaf l20)) cov_out)) cov_out)) cov_out)) cov_out))) (cov_fork cov_out (cov_fork (cov_fork cov_out (cov_fork (cov_fork cov_out (cov_fork (cov_fork (cov_leaf l21) cov_out) cov_out)) cov_out)) cov_out)))) (cov_fork cov_out (cov_fork cov_out (cov_fork (cov_fork (cov_leaf l22) (cov_fork (cov_fork (cov_leaf l23) (cov_fork cov_out (cov_fork cov_out (cov_leaf l24)))) (cov_fork cov_out (cov_fork cov_out (cov_leaf l25))))) (cov_fork cov_out (cov_fork cov_out (cov_fork cov_out (cov_leaf l26)))))))))))))))))))))))) cov_out) cov_out)
theorem calls (n0 : Int) (w0 : (Lit.int .i64 n0).wf = true) (n1 : Int) (w1 : (Lit.int .u64 n1).wf = true) (W : World) (ht : Bits.Tabs W) : Calls Tryd.prog 3 #[.int .i64 n0, .int .u64 n1] W fun e W' => e = .returned (.bool true) ∧ Below W.heap.size W W' := by
  have r0 := (Lit.wf_int_iff _ _).1 w0
  have m0 : IntKind.min .i64 = -9223372036854775808 := by decide
  have x0 : IntKind.max .i64 = 9223372036854775807 := by decide
  rw [m0, x0] at r0
  have r1 := (Lit.wf_int_iff _ _).1 w1
  have m1 : IntKind.min .u64 = 0 := by decide
  have x1 : IntKind.max .u64 = 18446744073709551615 := by decide
  rw [m1, x1] at r1
  exact tree_calls (env := fun i => match i with | 0 => n0 | 1 => n1 | _ => 0) hT_r mixed_ok (hF_r (Bits.tabsIn_of ht)) (by decide) cov (holds r0.1 r0.2 r1.1 r1.2) (rel_nil _ W) (.cons _ _ _ _ (VR.i .i64 (.v 0)) (.cons _ _ _ _ (VR.i .u64 (.v 1)) .nil))
#print axioms calls
end Go.Vm.VNumOnes
