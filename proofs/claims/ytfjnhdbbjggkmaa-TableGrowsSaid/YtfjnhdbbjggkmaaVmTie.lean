/- The VM's tables are those of the program Try. -/
import Derived.Test.YtfjnhdbbjggkmaaVmTab
import Derived.Test.YtfjnhdbbjggkmaaVmTree
set_option linter.unusedVariables false
namespace Go.Vm
open Go.Proofs
set_option maxRecDepth 100000
theorem tyTab_ok : tyTab = tabOf Try.prog := by kernel_rfl
theorem fuTab_ok : fuTab = fusOf Try.prog := by kernel_rfl
theorem und_ok : allUnd Try.prog = true := by kernel_rfl
theorem all_ok : allFu Try.prog = true := by kernel_rfl
theorem mixed_ok : Try.prog.follows .mixedOrders = true := by kernel_rfl
noncomputable def cx0 : Cx := { ty := tyTab, fu := fuTab, pc := [] }
noncomputable def cxb : Cx := { ty := tyTab, fu := fuB, pc := [] }
theorem hinfo : ∀ (t : TypeId) (i : TypeInfo), Try.prog.types[t]? = some i → Try.prog.info? t = some i := fun t i h => by
  unfold Tables.info?
  rw [if_pos (Array.getElem?_eq_some_iff.1 h).1]
  exact h
theorem hT_0 : TabOk Try.prog cx0 := tab_ok tyTab_ok hinfo und_ok
theorem hT_b : TabOk Try.prog cxb := tab_ok tyTab_ok hinfo und_ok
theorem hF_0 : ∀ n0, FuOk n0 Try.prog chkDraw cx0 := fun _ => fu_ok fuTab_ok all_ok
end Go.Vm
