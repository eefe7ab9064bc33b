/- The law TableAll of the given program, for every input: its row. -/
import Derived.Test.YtfjnhdbbjggkmaaRowTableAll
import Derived.Test.YtfjnhdbbjggkmaaFactTableAll
set_option linter.unusedVariables false
set_option linter.unusedSimpArgs false
namespace Go.Proofs.Ytfjnhdbbjggkmaa.tableAll
open Go.ChangeShapes Go.WideShapes Go.ChangeAt Go.RowKit
theorem facts : joinedFacts Try.prog 8 Try.f8 Rows.tableAllSpec Rows.tableAllRow = true := by
  simp only [joinedFacts, fact_laidOut, fact_rowed, fact_heard, fact_enter, fact0, fact1, fact2, fact3, fact4, fact5, fact6, Bool.and_true, Bool.true_and]
  kernel_rfl
theorem over : Rows.tableAllRow.holds Try.pinned (OpenSpec.ofChange Rows.tableAllSpec) :=
  OpenClaim.holds_of_wide 8 Try.f8 rfl rfl rfl rfl rfl rfl rfl ⟨rfl, rfl, rfl, rfl, rfl⟩ rfl rfl rfl rfl rfl (by kernel_rfl) Try.func8 facts
    (of_decide_eq_true (by kernel_rfl)) (by unfold Func.isWrapper; first | (rw [if_pos (by decide +kernel)]; kernel_rfl) | (rw [if_neg (by decide +kernel)]; exact ⟨rfl, rfl⟩))
    (fun os started H enc _ => lifted os started H enc)
theorem proved : Rows.TableAllSaid := over
#print axioms proved
end Go.Proofs.Ytfjnhdbbjggkmaa.tableAll
namespace Go.Proofs.Ytfjnhdbbjggkmaa
/-- The row, under a short name. -/
theorem tableAll_holds : Rows.TableAllSaid := tableAll.proved
#print axioms tableAll_holds
end Go.Proofs.Ytfjnhdbbjggkmaa
