/- The law TableSelf of the given program, for every input: its row. -/
import Derived.Test.YtfjnhdbbjggkmaaRowTableSelf
import Derived.Test.YtfjnhdbbjggkmaaFactTableSelf
set_option linter.unusedVariables false
set_option linter.unusedSimpArgs false
namespace Go.Proofs.Ytfjnhdbbjggkmaa.tableSelf
open Go.ChangeShapes Go.WideShapes Go.ChangeAt Go.RowKit
theorem facts : joinedFacts Try.prog 9 Try.f9 Rows.tableSelfSpec Rows.tableSelfRow = true := by
  simp only [joinedFacts, fact_laidOut, fact_rowed, fact_heard, fact_enter, fact0, fact1, fact2, fact3, fact4, fact5, fact6, Bool.and_true, Bool.true_and]
  kernel_rfl
theorem over : Rows.tableSelfRow.holds Try.pinned (OpenSpec.ofChange Rows.tableSelfSpec) :=
  OpenClaim.holds_of_wide 9 Try.f9 rfl rfl rfl rfl rfl rfl rfl ⟨rfl, rfl, rfl, rfl, rfl⟩ rfl rfl rfl rfl rfl (by kernel_rfl) Try.func9 facts
    (of_decide_eq_true (by kernel_rfl)) (by unfold Func.isWrapper; first | (rw [if_pos (by decide +kernel)]; kernel_rfl) | (rw [if_neg (by decide +kernel)]; exact ⟨rfl, rfl⟩))
    (fun os started H enc _ => lifted os started H enc)
theorem proved : Rows.TableSelfSaid := over
#print axioms proved
end Go.Proofs.Ytfjnhdbbjggkmaa.tableSelf
namespace Go.Proofs.Ytfjnhdbbjggkmaa
/-- The row, under a short name. -/
theorem tableSelf_holds : Rows.TableSelfSaid := tableSelf.proved
#print axioms tableSelf_holds
end Go.Proofs.Ytfjnhdbbjggkmaa
