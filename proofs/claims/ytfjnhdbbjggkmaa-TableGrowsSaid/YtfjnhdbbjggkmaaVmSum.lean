/- The calls that are known to answer true. -/
import Derived.Test.YtfjnhdbbjggkmaaVmTie
set_option linter.unusedVariables false
namespace Go.Vm
open Go.Proofs

theorem run12 : resE (evCall cx0 100000 12 [] (.mk .nil 1000 .off)) = some (.c true) := by kernel_rfl
theorem sum12 {n0 : Old} : SumOk n0 Try.prog 12 (constG true) := sum_ok hT_0 mixed_ok hF_0 rfl (by decide) run12 ⟨Try.f12, bodyOf Try.f12, Try.func12, by kernel_rfl, of_decide_eq_true (by kernel_rfl)⟩
theorem run17 : resE (evCall cx0 100000 17 [] (.mk .nil 1000 .off)) = some (.c true) := by kernel_rfl
theorem sum17 {n0 : Old} : SumOk n0 Try.prog 17 (constG true) := sum_ok hT_0 mixed_ok hF_0 rfl (by decide) run17 ⟨Try.f17, bodyOf Try.f17, Try.func17, by kernel_rfl, of_decide_eq_true (by kernel_rfl)⟩
theorem fuB_ok : fuB = Tr.set (Tr.set (fuTab) 12 (.sum (constG true))) 17 (.sum (constG true)) := by kernel_rfl
theorem hF_b {n0 : Old} : FuOk n0 Try.prog chkDraw cxb := by
  have h := (fu_sum (cx' := { cx0 with fu := Tr.set (Tr.set (fuTab) 12 (.sum (constG true))) 17 (.sum (constG true)) }) (fu_sum (cx' := { cx0 with fu := Tr.set (fuTab) 12 (.sum (constG true)) }) (hF_0 n0) sum12 rfl) sum17 rfl)
  intro f fu hf
  exact h f fu (by rw [show cxb.fu = fuB from rfl, fuB_ok] at hf; exact hf)
end Go.Vm
