/- The law TableGrows of the given program, for every input: its row. -/
import Derived.Test.YtfjnhdbbjggkmaaRowTableGrows
import Derived.Test.YtfjnhdbbjggkmaaFactTableGrows
set_option linter.unusedVariables false
set_option linter.unusedSimpArgs false
namespace Go.Proofs.Ytfjnhdbbjggkmaa.tableGrows
open Go.ChangeShapes Go.WideShapes Go.ChangeAt Go.RowKit
theorem facts : joinedFacts Try.prog 10 Try.f10 Rows.tableGrowsSpec Rows.tableGrowsRow = true := by
  simp only [joinedFacts, fact_laidOut, fact_rowed, fact_heard, fact_enter, fact0, fact1, fact2, fact3, fact4, fact5, fact6, Bool.and_true, Bool.true_and]
  kernel_rfl
theorem over : Rows.tableGrowsRow.holds Try.pinned (OpenSpec.ofChange Rows.tableGrowsSpec) :=
  OpenClaim.holds_of_wide 10 Try.f10 rfl rfl rfl rfl rfl rfl rfl ⟨rfl, rfl, rfl, rfl, rfl⟩ rfl rfl rfl rfl rfl (by kernel_rfl) Try.func10 facts
    (of_decide_eq_true (by kernel_rfl)) (by unfold Func.isWrapper; first | (rw [if_pos (by decide +kernel)]; kernel_rfl) | (rw [if_neg (by decide +kernel)]; exact ⟨rfl, rfl⟩))
    (fun os started H enc _ => lifted os started H enc)
theorem proved : Rows.TableGrowsSaid := over
#print axioms proved
end Go.Proofs.Ytfjnhdbbjggkmaa.tableGrows
namespace Go.Proofs.Ytfjnhdbbjggkmaa
/-- The row, under a short name. -/
theorem tableGrows_holds : Rows.TableGrowsSaid := tableGrows.proved
#print axioms tableGrows_holds
end Go.Proofs.Ytfjnhdbbjggkmaa
