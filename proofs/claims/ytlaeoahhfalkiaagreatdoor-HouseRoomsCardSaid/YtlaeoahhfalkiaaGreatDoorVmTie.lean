/- The VM's tables are those of the program Tryz. -/
import Derived.Test.YtlaeoahhfalkiaaGreatDoorVmTab
import Derived.Test.YtlaeoahhfalkiaaGreatDoorVmTree
set_option linter.unusedVariables false
namespace Go.Vm
open Go.Proofs
set_option maxRecDepth 100000
theorem tyTab_ok : tyTab = tabOf Tryz.prog := by kernel_rfl
theorem fuTab_ok : fuTab = fusOf Tryz.prog := by kernel_rfl
theorem und_ok : allUnd Tryz.prog = true := by kernel_rfl
theorem all_ok : allFu Tryz.prog = true := by kernel_rfl
theorem mixed_ok : Tryz.prog.follows .mixedOrders = true := by kernel_rfl
noncomputable def cx0 : Cx := { ty := tyTab, fu := fuTab, pc := [] }
noncomputable def cxb : Cx := { ty := tyTab, fu := fuB, pc := [] }
theorem hinfo : ∀ (t : TypeId) (i : TypeInfo), Tryz.prog.types[t]? = some i → Tryz.prog.info? t = some i := fun t i h => by
  unfold Tables.info?
  rw [if_pos (Array.getElem?_eq_some_iff.1 h).1]
  exact h
theorem hT_0 : TabOk Tryz.prog cx0 := tab_ok tyTab_ok hinfo und_ok
theorem hT_b : TabOk Tryz.prog cxb := tab_ok tyTab_ok hinfo und_ok
theorem hF_0 : ∀ n0, FuOk n0 Tryz.prog chkDraw cx0 := fun _ => fu_ok fuTab_ok all_ok
end Go.Vm
