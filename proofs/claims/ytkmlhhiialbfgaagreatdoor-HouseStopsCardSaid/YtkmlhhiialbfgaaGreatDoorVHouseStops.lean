/- The law HouseStops: its call answers true. -/
import Derived.Test.YtkmlhhiialbfgaaGreatDoorVHouseStopsL0
import Derived.Test.YtkmlhhiialbfgaaGreatDoorVHouseStopsL1
import Derived.Test.YtkmlhhiialbfgaaGreatDoorVHouseStopsL2
import Derived.Test.YtkmlhhiialbfgaaGreatDoorVHouseStopsL3
import Derived.Test.YtkmlhhiialbfgaaGreatDoorVHouseStopsL4
import Derived.Test.YtkmlhhiialbfgaaGreatDoorNHouseStops
import Derived.DataShut
set_option linter.unusedVariables false
set_option linter.unusedSimpArgs false
namespace Go.Vm.VHouseStops
open Go.Vm Go.Proofs Go.RowKit
theorem cov : Covers run dt [] := (cov_fork (cov_fork (cov_fork (cov_fork cov_out (cov_leaf l0)) (cov_fork (cov_fork cov_out (cov_leaf l1)) (cov_fork (cov_fork cov_out (cov_leaf l2)) (cov_fork (cov_fork cov_out (cov_leaf l3)) (cov_fork (cov_fork cov_out (cov_leaf l4)) cov_out))))) (cov_fork (cov_fork cov_out (cov_leaf l5)) (cov_fork (cov_fork cov_out (cov_leaf l6)) (cov_fork (cov_fork cov_out (cov_leaf l7)) (cov_fork (cov_fork cov_out (cov_leaf l8)) (cov_fork (cov_fork cov_out (cov_leaf l9)) cov_out)))))) (cov_fork (cov_fork (cov_fork (cov_fork cov_out (cov_leaf l10)) (cov_fork (cov_fork cov_out (cov_leaf l11)) (cov_fork (cov_fork cov_out (cov_leaf l12)) (cov_fork (cov_fork cov_out (cov_leaf l13)) (cov_fork (cov_fork cov_out (cov_leaf l14)) cov_out))))) (cov_fork (cov_fork cov_out (cov_leaf l15)) (cov_fork (cov_fork cov_out (cov_leaf l16)) (cov_fork (cov_fork cov_out (cov_leaf l17)) (cov_fork (cov_fork cov_out (cov_leaf l18)) (cov_fork (cov_fork cov_out (cov_leaf l19)) cov_out)))))) (cov_fork (cov_fork (cov_fork (cov_fork cov_out (cov_leaf l20)) (cov_fork (cov_fork cov_out (cov_leaf l21)) (cov_fork (cov_fork cov_out (cov_leaf l22)) (cov_fork (cov_fork cov_out (cov_leaf l23)) (cov_fork (cov_fork cov_out (cov_leaf l24)) cov_out))))) (cov_fork (cov_fork cov_out (cov_leaf l25)) (cov_fork (cov_fork cov_out (cov_leaf l26)) (cov_fork (cov_fork cov_out (cov_leaf l27)) (cov_fork (cov_fork cov_out (cov_leaf l28)) (cov_fork (cov_fork cov_out (cov_leaf l29)) cov_out)))))) cov_out)))
theorem calls (n0 : Int) (w0 : (Lit.int .u8 n0).wf = true) (n1 : Int) (w1 : (Lit.int .u8 n1).wf = true) (n2 : Bool) (n3 : Int) (w3 : (Lit.int .u8 n3).wf = true) (W : World) : Calls Tryz.prog 7 #[.int .u8 n0, .int .u8 n1, .bool n2, .int .u8 n3] W fun e W' => e = .returned (.bool true) ∧ Below W.heap.size W W' := by
  have r0 := (Lit.wf_int_iff _ _).1 w0
  have m0 : IntKind.min .u8 = 0 := by decide
  have x0 : IntKind.max .u8 = 255 := by decide
  rw [m0, x0] at r0
  have r1 := (Lit.wf_int_iff _ _).1 w1
  have m1 : IntKind.min .u8 = 0 := by decide
  have x1 : IntKind.max .u8 = 255 := by decide
  rw [m1, x1] at r1
  have r3 := (Lit.wf_int_iff _ _).1 w3
  have m3 : IntKind.min .u8 = 0 := by decide
  have x3 : IntKind.max .u8 = 255 := by decide
  rw [m3, x3] at r3
  exact tree_calls (env := fun i => match i with | 0 => n0 | 1 => n1 | 2 => (if n2 then 1 else 0) | 3 => n3 | _ => 0) hT_b mixed_ok hF_b (by decide) cov (holds r0.1 r0.2 r1.1 r1.2 (by cases n2 <;> simp) (by cases n2 <;> simp) r3.1 r3.2) (rel_nil _ W) (.cons _ _ _ _ (VR.i .u8 (.v 0)) (.cons _ _ _ _ (VR.i .u8 (.v 1)) (.cons _ _ _ _ (by cases n2 <;> exact VR.b (.eq (.v 2) (.c (.ofNat 1)))) (.cons _ _ _ _ (VR.i .u8 (.v 3)) .nil))))
#print axioms calls
end Go.Vm.VHouseStops
