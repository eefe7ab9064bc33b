/- The law CallArgs: its call answers true. -/
import Derived.Test.YtkmlhhiialbfgaaGreatDoorVCallArgsL0
import Derived.Test.YtkmlhhiialbfgaaGreatDoorVCallArgsL1
import Derived.Test.YtkmlhhiialbfgaaGreatDoorVCallArgsL2
import Derived.Test.YtkmlhhiialbfgaaGreatDoorVCallArgsL3
import Derived.Test.YtkmlhhiialbfgaaGreatDoorVCallArgsL4
import Derived.Test.YtkmlhhiialbfgaaGreatDoorVCallArgsL5
import Derived.Test.YtkmlhhiialbfgaaGreatDoorNCallArgs
import Derived.DataShut
set_option linter.unusedVariables false
set_option linter.unusedSimpArgs false
namespace Go.Vm.VCallArgs
open Go.Vm Go.Proofs Go.RowKit
theorem cov_0 : Covers run_0 dt_0 [] := (cov_fork (cov_leaf l0_0) (cov_fork (cov_leaf l0_1) (cov_fork (cov_leaf l0_2) (cov_fork (cov_leaf l0_3) (cov_fork (cov_leaf l0_4) (cov_fork (cov_leaf l0_5) (cov_fork (cov_leaf l0_6) (cov_fork (cov_leaf l0_7) (cov_fork (cov_leaf l0_8) (cov_fork (cov_leaf l0_9) cov_out))))))))))
theorem cov_1 : Covers run_1 dt_1 [] := (cov_fork (cov_fork (cov_leaf l1_0) (cov_leaf l1_1)) (cov_fork (cov_leaf l1_2) (cov_fork (cov_leaf l1_3) (cov_fork (cov_leaf l1_4) (cov_fork (cov_leaf l1_5) (cov_fork (cov_fork (cov_leaf l1_6) (cov_leaf l1_7)) (cov_fork (cov_fork (cov_leaf l1_8) (cov_leaf l1_9)) (cov_fork (cov_leaf l1_10) (cov_fork (cov_leaf l1_11) (cov_fork (cov_leaf l1_12) cov_out))))))))))
theorem cov_2 : Covers run_2 dt_2 [] := (cov_fork (cov_leaf l2_0) (cov_fork (cov_leaf l2_1) (cov_fork (cov_leaf l2_2) (cov_fork (cov_leaf l2_3) (cov_fork (cov_fork (cov_leaf l2_4) (cov_fork (cov_leaf l2_5) (cov_leaf l2_6))) (cov_fork (cov_leaf l2_7) (cov_fork (cov_leaf l2_8) (cov_fork (cov_leaf l2_9) (cov_fork (cov_leaf l2_10) (cov_fork (cov_leaf l2_11) cov_out))))))))))
theorem cov_3 : Covers run_3 dt_3 [] := (cov_fork (cov_leaf l3_0) (cov_fork (cov_leaf l3_1) (cov_fork (cov_leaf l3_2) (cov_fork (cov_leaf l3_3) (cov_fork (cov_leaf l3_4) (cov_fork (cov_leaf l3_5) (cov_fork (cov_leaf l3_6) (cov_fork (cov_leaf l3_7) (cov_fork (cov_leaf l3_8) (cov_fork (cov_leaf l3_9) cov_out))))))))))
theorem cov_4 : Covers run_4 dt_4 [] := (cov_fork (cov_leaf l4_0) (cov_fork (cov_leaf l4_1) (cov_fork (cov_leaf l4_2) (cov_fork (cov_leaf l4_3) (cov_fork (cov_leaf l4_4) (cov_fork (cov_leaf l4_5) (cov_fork (cov_leaf l4_6) (cov_fork (cov_leaf l4_7) (cov_fork (cov_leaf l4_8) (cov_fork (cov_leaf l4_9) cov_out))))))))))
theorem cov_5 : Covers run_5 dt_5 [] := (cov_fork (cov_leaf l5_0) (cov_fork (cov_leaf l5_1) (cov_fork (cov_leaf l5_2) (cov_fork (cov_leaf l5_3) (cov_fork (cov_leaf l5_4) (cov_fork (cov_leaf l5_5) (cov_fork (cov_leaf l5_6) (cov_fork (cov_leaf l5_7) (cov_fork (cov_leaf l5_8) (cov_fork (cov_leaf l5_9) cov_out))))))))))
theorem cov_6 : Covers run_6 dt_6 [] := (cov_fork (cov_leaf l6_0) (cov_fork (cov_leaf l6_1) (cov_fork (cov_leaf l6_2) (cov_fork (cov_leaf l6_3) (cov_fork (cov_leaf l6_4) (cov_fork (cov_leaf l6_5) (cov_fork (cov_leaf l6_6) (cov_fork (cov_leaf l6_7) (cov_fork (cov_leaf l6_8) (cov_fork (cov_leaf l6_9) cov_out))))))))))
theorem cov_nil : Covers run_nil dt_nil [] := (cov_fork (cov_leaf lnil_0) (cov_fork (cov_leaf lnil_1) (cov_fork (cov_leaf lnil_2) (cov_fork (cov_leaf lnil_3) (cov_fork (cov_leaf lnil_4) (cov_fork (cov_leaf lnil_5) (cov_fork (cov_leaf lnil_6) (cov_fork (cov_leaf lnil_7) (cov_fork (cov_leaf lnil_8) (cov_fork (cov_leaf lnil_9) cov_out))))))))))
theorem calls (n0 : Int) (w0 : (Lit.int .u8 n0).wf = true) (a : Option Addr) (len cap : Nat) (zs : List Int) (W : World) (hrow : IsRow .u64 W a len cap zs) (hpos : HasCells W) : Calls Tryz.prog 4 #[.int .u8 n0, .slice a len cap] W fun e W' => e = .returned (.bool true) ∧ Below W.heap.size W W' := by
  have r0 := (Lit.wf_int_iff _ _).1 w0
  have m0 : IntKind.min .u8 = 0 := by decide
  have x0 : IntKind.max .u8 = 255 := by decide
  rw [m0, x0] at r0
  rcases hrow with ⟨rfl, rfl, rfl, rfl⟩ | ⟨x, rfl, hl, hm, hz, hcell, hwf⟩
  · exact tree_calls (env := (fun i => match i with | 0 => n0 | _ => 0)) hT_b mixed_ok hF_b (by decide) cov_nil (holds_nil r0.1 r0.2) (rel_nil _ W) (.cons _ _ _ _ (VR.i .u8 (.v 0)) (.cons _ _ _ _ (VR.sn 0 0) .nil))
  · by_cases hbig : 6 < len
    · obtain ⟨m, rfl⟩ : ∃ m, len = m + 7 := ⟨len - 7, by omega⟩
      obtain ⟨pl, hr, hv⟩ := any_in hl (fun h => block_of hz hcell h) hpos (fun i => match i with | 0 => n0 | i => zs.getD (i - 1000) 0) (b := 8) (by decide) 32
      exact tree_calls (d := .leaf (.c true)) hT_b mixed_ok hF_b (by decide) (cov_leaf (run := run_big m) (big m)) rfl hr (.cons _ _ _ _ (VR.i .u8 (.v 0)) (.cons _ _ _ _ (hv) .nil))
    · have hwf' : ∀ j, j < cap → 0 ≤ zs.getD j 0 ∧ zs.getD j 0 ≤ 18446744073709551615 := by
        intro j hj
        have := (Lit.wf_int_iff _ _).1 (wf_getD hwf (j := j) (by omega))
        rw [show IntKind.min .u64 = 0 by decide, show IntKind.max .u64 = 18446744073709551615 by decide] at this
        exact this
      have hlen : len = 0 ∨ len = 1 ∨ len = 2 ∨ len = 3 ∨ len = 4 ∨ len = 5 ∨ len = 6 := by omega
      rcases hlen with rfl | rfl | rfl | rfl | rfl | rfl | rfl
      · by_cases hc : 0 < cap
        · obtain ⟨pl, hr, hv⟩ := ints_in hz hcell hc (L := 0) (base := 1000) (by omega) (env := (fun i => match i with | 0 => n0 | i => zs.getD (i - 1000) 0)) (fun j h => by omega) (b := 8) (by decide) 32 (vs := []) rfl
          exact tree_calls hT_b mixed_ok hF_b (by decide) cov_0 (holds_0 r0.1 r0.2) hr (.cons _ _ _ _ (VR.i .u8 (.v 0)) (.cons _ _ _ _ (hv) .nil))
        · obtain ⟨pl, hr, hv⟩ := none_in (x := x) (cap := cap) (by omega) hpos (fun i => match i with | 0 => n0 | i => zs.getD (i - 1000) 0) (b := 8) (by decide) 32
          exact tree_calls hT_b mixed_ok hF_b (by decide) cov_0 (holds_0 r0.1 r0.2) hr (.cons _ _ _ _ (VR.i .u8 (.v 0)) (.cons _ _ _ _ (hv) .nil))
      · obtain ⟨pl, hr, hv⟩ := ints_in hz hcell (by omega) (L := 1) (base := 1000) (by omega) (env := (fun i => match i with | 0 => n0 | i => zs.getD (i - 1000) 0)) (fun j h => by rw [show 1000 + j = (999 + j) + 1 by omega]; show zs.getD (999 + j + 1 - 1000) 0 = _; rw [show 999 + j + 1 - 1000 = j by omega]) (b := 8) (by decide) 32 (vs := [.i .u64 (.v 1000)]) rfl
        exact tree_calls hT_b mixed_ok hF_b (by decide) cov_1 (holds_1 r0.1 r0.2 (hwf' 0 (by omega)).1 (hwf' 0 (by omega)).2) hr (.cons _ _ _ _ (VR.i .u8 (.v 0)) (.cons _ _ _ _ (hv) .nil))
      · obtain ⟨pl, hr, hv⟩ := ints_in hz hcell (by omega) (L := 2) (base := 1000) (by omega) (env := (fun i => match i with | 0 => n0 | i => zs.getD (i - 1000) 0)) (fun j h => by rw [show 1000 + j = (999 + j) + 1 by omega]; show zs.getD (999 + j + 1 - 1000) 0 = _; rw [show 999 + j + 1 - 1000 = j by omega]) (b := 8) (by decide) 32 (vs := [.i .u64 (.v 1000), .i .u64 (.v 1001)]) rfl
        exact tree_calls hT_b mixed_ok hF_b (by decide) cov_2 (holds_2 r0.1 r0.2 (hwf' 0 (by omega)).1 (hwf' 0 (by omega)).2 (hwf' 1 (by omega)).1 (hwf' 1 (by omega)).2) hr (.cons _ _ _ _ (VR.i .u8 (.v 0)) (.cons _ _ _ _ (hv) .nil))
      · obtain ⟨pl, hr, hv⟩ := ints_in hz hcell (by omega) (L := 3) (base := 1000) (by omega) (env := (fun i => match i with | 0 => n0 | i => zs.getD (i - 1000) 0)) (fun j h => by rw [show 1000 + j = (999 + j) + 1 by omega]; show zs.getD (999 + j + 1 - 1000) 0 = _; rw [show 999 + j + 1 - 1000 = j by omega]) (b := 8) (by decide) 32 (vs := [.i .u64 (.v 1000), .i .u64 (.v 1001), .i .u64 (.v 1002)]) rfl
        exact tree_calls hT_b mixed_ok hF_b (by decide) cov_3 (holds_3 r0.1 r0.2 (hwf' 0 (by omega)).1 (hwf' 0 (by omega)).2 (hwf' 1 (by omega)).1 (hwf' 1 (by omega)).2 (hwf' 2 (by omega)).1 (hwf' 2 (by omega)).2) hr (.cons _ _ _ _ (VR.i .u8 (.v 0)) (.cons _ _ _ _ (hv) .nil))
      · obtain ⟨pl, hr, hv⟩ := ints_in hz hcell (by omega) (L := 4) (base := 1000) (by omega) (env := (fun i => match i with | 0 => n0 | i => zs.getD (i - 1000) 0)) (fun j h => by rw [show 1000 + j = (999 + j) + 1 by omega]; show zs.getD (999 + j + 1 - 1000) 0 = _; rw [show 999 + j + 1 - 1000 = j by omega]) (b := 8) (by decide) 32 (vs := [.i .u64 (.v 1000), .i .u64 (.v 1001), .i .u64 (.v 1002), .i .u64 (.v 1003)]) rfl
        exact tree_calls hT_b mixed_ok hF_b (by decide) cov_4 (holds_4 r0.1 r0.2 (hwf' 0 (by omega)).1 (hwf' 0 (by omega)).2 (hwf' 1 (by omega)).1 (hwf' 1 (by omega)).2 (hwf' 2 (by omega)).1 (hwf' 2 (by omega)).2 (hwf' 3 (by omega)).1 (hwf' 3 (by omega)).2) hr (.cons _ _ _ _ (VR.i .u8 (.v 0)) (.cons _ _ _ _ (hv) .nil))
      · obtain ⟨pl, hr, hv⟩ := ints_in hz hcell (by omega) (L := 5) (base := 1000) (by omega) (env := (fun i => match i with | 0 => n0 | i => zs.getD (i - 1000) 0)) (fun j h => by rw [show 1000 + j = (999 + j) + 1 by omega]; show zs.getD (999 + j + 1 - 1000) 0 = _; rw [show 999 + j + 1 - 1000 = j by omega]) (b := 8) (by decide) 32 (vs := [.i .u64 (.v 1000), .i .u64 (.v 1001), .i .u64 (.v 1002), .i .u64 (.v 1003), .i .u64 (.v 1004)]) rfl
        exact tree_calls hT_b mixed_ok hF_b (by decide) cov_5 (holds_5 r0.1 r0.2 (hwf' 0 (by omega)).1 (hwf' 0 (by omega)).2 (hwf' 1 (by omega)).1 (hwf' 1 (by omega)).2 (hwf' 2 (by omega)).1 (hwf' 2 (by omega)).2 (hwf' 3 (by omega)).1 (hwf' 3 (by omega)).2 (hwf' 4 (by omega)).1 (hwf' 4 (by omega)).2) hr (.cons _ _ _ _ (VR.i .u8 (.v 0)) (.cons _ _ _ _ (hv) .nil))
      · obtain ⟨pl, hr, hv⟩ := ints_in hz hcell (by omega) (L := 6) (base := 1000) (by omega) (env := (fun i => match i with | 0 => n0 | i => zs.getD (i - 1000) 0)) (fun j h => by rw [show 1000 + j = (999 + j) + 1 by omega]; show zs.getD (999 + j + 1 - 1000) 0 = _; rw [show 999 + j + 1 - 1000 = j by omega]) (b := 8) (by decide) 32 (vs := [.i .u64 (.v 1000), .i .u64 (.v 1001), .i .u64 (.v 1002), .i .u64 (.v 1003), .i .u64 (.v 1004), .i .u64 (.v 1005)]) rfl
        exact tree_calls hT_b mixed_ok hF_b (by decide) cov_6 (holds_6 r0.1 r0.2 (hwf' 0 (by omega)).1 (hwf' 0 (by omega)).2 (hwf' 1 (by omega)).1 (hwf' 1 (by omega)).2 (hwf' 2 (by omega)).1 (hwf' 2 (by omega)).2 (hwf' 3 (by omega)).1 (hwf' 3 (by omega)).2 (hwf' 4 (by omega)).1 (hwf' 4 (by omega)).2 (hwf' 5 (by omega)).1 (hwf' 5 (by omega)).2) hr (.cons _ _ _ _ (VR.i .u8 (.v 0)) (.cons _ _ _ _ (hv) .nil))
#print axioms calls
end Go.Vm.VCallArgs
