/- The calls that are known to answer true. -/
import Derived.Test.YtjbfdmhldofeiaaGreatDoorVmTie
set_option linter.unusedVariables false
namespace Go.Vm
open Go.Proofs

theorem run15 : resE (evCall cx0 100000 15 [] (.mk .nil 1000 .off)) = some (.c true) := by kernel_rfl
theorem sum15 : SumOk Tryz.prog 15 true := sum_ok hT_0 mixed_ok hF_0 rfl (by decide) run15 ⟨Tryz.f15, bodyOf Tryz.f15, Tryz.func15, by kernel_rfl, of_decide_eq_true (by kernel_rfl)⟩
theorem fuB_ok : fuB = Tr.set (fuTab) 15 (.const true) := by kernel_rfl
theorem hF_b : FuOk Tryz.prog chkDraw cxb := by
  have h := (fu_sum (cx' := { cx0 with fu := Tr.set (fuTab) 15 (.const true) }) hF_0 sum15 rfl)
  intro f fu hf
  exact h f fu (by rw [show cxb.fu = fuB from rfl, fuB_ok] at hf; exact hf)
end Go.Vm
