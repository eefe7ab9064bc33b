/- The calls that are known to answer true. -/
import Derived.Test.YtlaeoahhfalkiaaGreatDoorVmTie
set_option linter.unusedVariables false
namespace Go.Vm
open Go.Proofs

theorem run6 : resE (evCall cx0 100000 6 [] (.mk .nil 1000 .off)) = some (.c true) := by kernel_rfl
theorem sum6 {n0 : Old} : SumOk n0 Tryz.prog 6 (constG true) := sum_ok hT_0 mixed_ok hF_0 rfl (by decide) run6 ⟨Tryz.f6, bodyOf Tryz.f6, Tryz.func6, by kernel_rfl, of_decide_eq_true (by kernel_rfl)⟩
theorem fuB_ok : fuB = Tr.set (fuTab) 6 (.sum (constG true)) := by kernel_rfl
theorem hF_b {n0 : Old} : FuOk n0 Tryz.prog chkDraw cxb := by
  have h := (fu_sum (cx' := { cx0 with fu := Tr.set (fuTab) 6 (.sum (constG true)) }) (hF_0 n0) sum6 rfl)
  intro f fu hf
  exact h f fu (by rw [show cxb.fu = fuB from rfl, fuB_ok] at hf; exact hf)
end Go.Vm
