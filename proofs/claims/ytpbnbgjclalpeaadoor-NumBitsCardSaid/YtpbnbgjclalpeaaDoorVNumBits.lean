/- The law NumBits: its call answers true. -/
import Derived.Test.YtpbnbgjclalpeaaDoorVNumBitsL0
import Derived.Test.YtpbnbgjclalpeaaDoorNNumBits
import Derived.DataShut
set_option linter.unusedVariables false
set_option linter.unusedSimpArgs false
namespace Go.Vm.VNumBits
open Go.Vm Go.Proofs Go.RowKit
theorem cov : Covers run dt [] := (cov_fork (cov_fork (cov_fork cov_out (cov_fork (cov_leaf l0) (cov_fork (cov_fork cov_out (cov_fork (cov_fork cov_out (cov_fork cov_out (cov_leaf l1))) cov_out)) cov_out))) cov_out) cov_out)
theorem calls (n0 : Int) (w0 : (Lit.int .u64 n0).wf = true) (W : World) (ht : Bits.Tabs W) : Calls Tryd.prog 9 #[.int .u64 n0] W fun e W' => e = .returned (.bool true) ∧ Below W.heap.size W W' := by
  have r0 := (Lit.wf_int_iff _ _).1 w0
  have m0 : IntKind.min .u64 = 0 := by decide
  have x0 : IntKind.max .u64 = 18446744073709551615 := by decide
  rw [m0, x0] at r0
  exact tree_calls (env := fun i => match i with | 0 => n0 | _ => 0) hT_r mixed_ok (hF_r (Bits.tabsIn_of ht)) (by decide) cov (holds r0.1 r0.2) (rel_nil _ W) (.cons _ _ _ _ (VR.i .u64 (.v 0)) .nil)
#print axioms calls
end Go.Vm.VNumBits
