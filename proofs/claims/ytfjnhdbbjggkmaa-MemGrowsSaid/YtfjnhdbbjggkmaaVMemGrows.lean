/- The law MemGrows: its call answers true. -/
import Derived.Test.YtfjnhdbbjggkmaaVMemGrowsL0
import Derived.Test.YtfjnhdbbjggkmaaNMemGrows
import Derived.DataShut
set_option linter.unusedVariables false
set_option linter.unusedSimpArgs false
namespace Go.Vm.VMemGrows
open Go.Vm Go.Proofs Go.RowKit
theorem cov : Covers run dt [] := (cov_fork (cov_fork (cov_fork (cov_fork (cov_fork (cov_leaf l0) (cov_fork (cov_leaf l1) cov_out)) (cov_fork cov_out (cov_fork cov_out (cov_fork cov_out (cov_fork cov_out (cov_leaf l2)))))) (cov_fork cov_out (cov_fork cov_out (cov_leaf l3)))) (cov_fork (cov_fork cov_out (cov_fork cov_out (cov_fork cov_out (cov_fork cov_out (cov_fork cov_out (cov_leaf l4)))))) (cov_fork cov_out (cov_fork cov_out (cov_leaf l5))))) (cov_fork (cov_fork (cov_fork (cov_fork (cov_fork (cov_leaf l6) (cov_fork (cov_leaf l7) cov_out)) (cov_fork (cov_fork (cov_leaf l8) (cov_fork (cov_leaf l9) cov_out)) cov_out)) (cov_fork (cov_leaf l10) cov_out)) (cov_fork (cov_fork cov_out (cov_fork (cov_fork (cov_leaf l11) (cov_fork (cov_leaf l12) cov_out)) (cov_fork cov_out (cov_fork cov_out (cov_fork cov_out (cov_leaf l13)))))) (cov_fork cov_out (cov_fork cov_out (cov_leaf l14))))) (cov_fork (cov_fork (cov_fork (cov_fork (cov_leaf l15) (cov_fork (cov_leaf l16) cov_out)) (cov_fork (cov_fork (cov_leaf l17) (cov_fork (cov_leaf l18) cov_out)) cov_out)) (cov_fork (cov_fork (cov_leaf l19) cov_out) cov_out)) (cov_fork (cov_fork cov_out (cov_fork (cov_fork (cov_leaf l20) (cov_fork (cov_leaf l21) cov_out)) cov_out)) (cov_fork (cov_fork (cov_leaf l22) cov_out) cov_out)))))
theorem calls (n0 : Bool) (n1 : Int) (w1 : (Lit.int .u64 n1).wf = true) (n2 : Int) (w2 : (Lit.int .u32 n2).wf = true) (n3 : Bool) (W : World) : Calls Try.prog 5 #[.bool n0, .int .u64 n1, .int .u32 n2, .bool n3] W fun e W' => e = .returned (.bool true) ∧ Below W.heap.size W W' := by
  have r1 := (Lit.wf_int_iff _ _).1 w1
  have m1 : IntKind.min .u64 = 0 := by decide
  have x1 : IntKind.max .u64 = 18446744073709551615 := by decide
  rw [m1, x1] at r1
  have r2 := (Lit.wf_int_iff _ _).1 w2
  have m2 : IntKind.min .u32 = 0 := by decide
  have x2 : IntKind.max .u32 = 4294967295 := by decide
  rw [m2, x2] at r2
  exact tree_calls (env := fun i => match i with | 0 => (if n0 then 1 else 0) | 1 => n1 | 2 => n2 | 3 => (if n3 then 1 else 0) | _ => 0) hT_b mixed_ok hF_b (by decide) cov (holds (by cases n0 <;> simp) (by cases n0 <;> simp) r1.1 r1.2 r2.1 r2.2 (by cases n3 <;> simp) (by cases n3 <;> simp)) (rel_nil _ W) (.cons _ _ _ _ (by cases n0 <;> exact VR.b (.eq (.v 0) (.c (.ofNat 1)))) (.cons _ _ _ _ (VR.i .u64 (.v 1)) (.cons _ _ _ _ (VR.i .u32 (.v 2)) (.cons _ _ _ _ (by cases n3 <;> exact VR.b (.eq (.v 3) (.c (.ofNat 1)))) .nil))))
#print axioms calls
end Go.Vm.VMemGrows
