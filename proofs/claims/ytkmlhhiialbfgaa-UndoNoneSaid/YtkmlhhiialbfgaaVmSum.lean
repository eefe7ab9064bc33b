/- The calls that are known to answer true. -/
import Derived.Test.YtkmlhhiialbfgaaVmTie
set_option linter.unusedVariables false
namespace Go.Vm
open Go.Proofs

theorem run5 : resE (evCall cx0 100000 5 [] (.mk .nil 1000 .off)) = some (.c true) := by kernel_rfl
theorem sum5 : SumOk Try.prog 5 true := sum_ok hT_0 mixed_ok hF_0 rfl (by decide) run5 ⟨Try.f5, bodyOf Try.f5, Try.func5, by kernel_rfl, of_decide_eq_true (by kernel_rfl)⟩
theorem fuB_ok : fuB = Tr.set (fuTab) 5 (.const true) := by kernel_rfl
theorem hF_b : FuOk Try.prog chkDraw cxb := by
  have h := (fu_sum (cx' := { cx0 with fu := Tr.set (fuTab) 5 (.const true) }) hF_0 sum5 rfl)
  intro f fu hf
  exact h f fu (by rw [show cxb.fu = fuB from rfl, fuB_ok] at hf; exact hf)
end Go.Vm
