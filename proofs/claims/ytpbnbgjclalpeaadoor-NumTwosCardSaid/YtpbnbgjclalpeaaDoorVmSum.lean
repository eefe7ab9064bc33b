/- The calls that are known to answer true. -/
import Derived.Test.YtpbnbgjclalpeaaDoorVmTie
set_option linter.unusedVariables false
namespace Go.Vm
open Go.Proofs

theorem run12 : resE (evCall cx0 100000 12 [] (.mk .nil 1000 .off)) = some (.c true) := by kernel_rfl
theorem sum12 : SumOk Tryd.prog 12 true := sum_ok hT_0 mixed_ok hF_0 rfl (by decide) run12 ⟨Tryd.f12, bodyOf Tryd.f12, Tryd.func12, by kernel_rfl, of_decide_eq_true (by kernel_rfl)⟩
theorem fuB_ok : fuB = Tr.set (fuTab) 12 (.const true) := by kernel_rfl
theorem hF_b : FuOk Tryd.prog chkDraw cxb := by
  have h := (fu_sum (cx' := { cx0 with fu := Tr.set (fuTab) 12 (.const true) }) hF_0 sum12 rfl)
  intro f fu hf
  exact h f fu (by rw [show cxb.fu = fuB from rfl, fuB_ok] at hf; exact hf)
end Go.Vm
