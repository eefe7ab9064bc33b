/- The calls that are known to answer true. -/
import Derived.Test.YtkmlhhiialbfgaaGreatDoorVmTie
set_option linter.unusedVariables false
namespace Go.Vm
open Go.Proofs

theorem run13 : resE (evCall cx0 100000 13 [] (.mk .nil 1000 .off)) = some (.c true) := by kernel_rfl
theorem sum13 : SumOk Tryz.prog 13 true := sum_ok hT_0 mixed_ok hF_0 rfl (by decide) run13 ⟨Tryz.f13, bodyOf Tryz.f13, Tryz.func13, by kernel_rfl, of_decide_eq_true (by kernel_rfl)⟩
theorem run23 : resE (evCall cx0 100000 23 [] (.mk .nil 1000 .off)) = some (.c true) := by kernel_rfl
theorem sum23 : SumOk Tryz.prog 23 true := sum_ok hT_0 mixed_ok hF_0 rfl (by decide) run23 ⟨Tryz.f23, bodyOf Tryz.f23, Tryz.func23, by kernel_rfl, of_decide_eq_true (by kernel_rfl)⟩
theorem run38 : resE (evCall cx0 100000 38 [] (.mk .nil 1000 .off)) = some (.c true) := by kernel_rfl
theorem sum38 : SumOk Tryz.prog 38 true := sum_ok hT_0 mixed_ok hF_0 rfl (by decide) run38 ⟨Tryz.f38, bodyOf Tryz.f38, Tryz.func38, by kernel_rfl, of_decide_eq_true (by kernel_rfl)⟩
theorem run42 : resE (evCall cx0 100000 42 [] (.mk .nil 1000 .off)) = some (.c true) := by kernel_rfl
theorem sum42 : SumOk Tryz.prog 42 true := sum_ok hT_0 mixed_ok hF_0 rfl (by decide) run42 ⟨Tryz.f42, bodyOf Tryz.f42, Tryz.func42, by kernel_rfl, of_decide_eq_true (by kernel_rfl)⟩
theorem run47 : resE (evCall cx0 100000 47 [] (.mk .nil 1000 .off)) = some (.c true) := by kernel_rfl
theorem sum47 : SumOk Tryz.prog 47 true := sum_ok hT_0 mixed_ok hF_0 rfl (by decide) run47 ⟨Tryz.f47, bodyOf Tryz.f47, Tryz.func47, by kernel_rfl, of_decide_eq_true (by kernel_rfl)⟩
theorem fuB_ok : fuB = Tr.set (Tr.set (Tr.set (Tr.set (Tr.set (fuTab) 13 (.const true)) 23 (.const true)) 38 (.const true)) 42 (.const true)) 47 (.const true) := by kernel_rfl
theorem hF_b : FuOk Tryz.prog chkDraw cxb := by
  have h := (fu_sum (cx' := { cx0 with fu := Tr.set (Tr.set (Tr.set (Tr.set (Tr.set (fuTab) 13 (.const true)) 23 (.const true)) 38 (.const true)) 42 (.const true)) 47 (.const true) }) (fu_sum (cx' := { cx0 with fu := Tr.set (Tr.set (Tr.set (Tr.set (fuTab) 13 (.const true)) 23 (.const true)) 38 (.const true)) 42 (.const true) }) (fu_sum (cx' := { cx0 with fu := Tr.set (Tr.set (Tr.set (fuTab) 13 (.const true)) 23 (.const true)) 38 (.const true) }) (fu_sum (cx' := { cx0 with fu := Tr.set (Tr.set (fuTab) 13 (.const true)) 23 (.const true) }) (fu_sum (cx' := { cx0 with fu := Tr.set (fuTab) 13 (.const true) }) hF_0 sum13 rfl) sum23 rfl) sum38 rfl) sum42 rfl) sum47 rfl)
  intro f fu hf
  exact h f fu (by rw [show cxb.fu = fuB from rfl, fuB_ok] at hf; exact hf)
end Go.Vm
