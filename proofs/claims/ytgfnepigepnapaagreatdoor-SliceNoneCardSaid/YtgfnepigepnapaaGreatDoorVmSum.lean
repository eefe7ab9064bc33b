/- The calls that are known to answer true. -/
import Derived.Test.YtgfnepigepnapaaGreatDoorVmTie
set_option linter.unusedVariables false
namespace Go.Vm
open Go.Proofs

theorem run15 : resE (evCall cx0 100000 15 [] (.mk .nil 1000 .off)) = some (.c true) := by kernel_rfl
theorem sum15 {n0 : Old} : SumOk n0 Tryz.prog 15 (constG true) := sum_ok hT_0 mixed_ok hF_0 rfl (by decide) run15 ⟨Tryz.f15, bodyOf Tryz.f15, Tryz.func15, by kernel_rfl, of_decide_eq_true (by kernel_rfl)⟩
theorem run18 : resE (evCall cx0 100000 18 [] (.mk .nil 1000 .off)) = some (.c true) := by kernel_rfl
theorem sum18 {n0 : Old} : SumOk n0 Tryz.prog 18 (constG true) := sum_ok hT_0 mixed_ok hF_0 rfl (by decide) run18 ⟨Tryz.f18, bodyOf Tryz.f18, Tryz.func18, by kernel_rfl, of_decide_eq_true (by kernel_rfl)⟩
theorem run27 : resE (evCall cx0 100000 27 [] (.mk .nil 1000 .off)) = some (.c true) := by kernel_rfl
theorem sum27 {n0 : Old} : SumOk n0 Tryz.prog 27 (constG true) := sum_ok hT_0 mixed_ok hF_0 rfl (by decide) run27 ⟨Tryz.f27, bodyOf Tryz.f27, Tryz.func27, by kernel_rfl, of_decide_eq_true (by kernel_rfl)⟩
theorem run29 : resE (evCall cx0 100000 29 [] (.mk .nil 1000 .off)) = some (.c true) := by kernel_rfl
theorem sum29 {n0 : Old} : SumOk n0 Tryz.prog 29 (constG true) := sum_ok hT_0 mixed_ok hF_0 rfl (by decide) run29 ⟨Tryz.f29, bodyOf Tryz.f29, Tryz.func29, by kernel_rfl, of_decide_eq_true (by kernel_rfl)⟩
theorem fuB_ok : fuB = Tr.set (Tr.set (Tr.set (Tr.set (fuTab) 15 (.sum (constG true))) 18 (.sum (constG true))) 27 (.sum (constG true))) 29 (.sum (constG true)) := by kernel_rfl
theorem hF_b {n0 : Old} : FuOk n0 Tryz.prog chkDraw cxb := by
  have h := (fu_sum (cx' := { cx0 with fu := Tr.set (Tr.set (Tr.set (Tr.set (fuTab) 15 (.sum (constG true))) 18 (.sum (constG true))) 27 (.sum (constG true))) 29 (.sum (constG true)) }) (fu_sum (cx' := { cx0 with fu := Tr.set (Tr.set (Tr.set (fuTab) 15 (.sum (constG true))) 18 (.sum (constG true))) 27 (.sum (constG true)) }) (fu_sum (cx' := { cx0 with fu := Tr.set (Tr.set (fuTab) 15 (.sum (constG true))) 18 (.sum (constG true)) }) (fu_sum (cx' := { cx0 with fu := Tr.set (fuTab) 15 (.sum (constG true)) }) (hF_0 n0) sum15 rfl) sum18 rfl) sum27 rfl) sum29 rfl)
  intro f fu hf
  exact h f fu (by rw [show cxb.fu = fuB from rfl, fuB_ok] at hf; exact hf)
end Go.Vm
