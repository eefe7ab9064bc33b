/- The law MemGrows of the given program, for every input: its row. -/
import Derived.Test.YtfjnhdbbjggkmaaRowMemGrows
set_option linter.unusedVariables false
namespace Go.Proofs.Ytfjnhdbbjggkmaa.memGrows
open Go.ChangeShapes Go.WideShapes Go.ChangeAt Go.RowKit
theorem over : Rows.memGrowsRow.holds Try.pinned (OpenSpec.ofChange Rows.memGrowsSpec) :=
  OpenClaim.holds_of_wide 5 Try.f5 rfl rfl rfl rfl rfl rfl rfl ⟨rfl, rfl, rfl, rfl, rfl⟩ rfl rfl rfl rfl rfl (by kernel_rfl) Try.func5 (by kernel_rfl)
    (of_decide_eq_true (by kernel_rfl)) (by unfold Func.isWrapper; first | (rw [if_pos (by decide +kernel)]; kernel_rfl) | (rw [if_neg (by decide +kernel)]; exact ⟨rfl, rfl⟩))
    (fun os started H enc _ => lifted os started H enc)
theorem proved : Rows.MemGrowsSaid := over
#print axioms proved
end Go.Proofs.Ytfjnhdbbjggkmaa.memGrows
namespace Go.Proofs.Ytfjnhdbbjggkmaa
/-- The row, under a short name. -/
theorem memGrows_holds : Rows.MemGrowsSaid := memGrows.proved
#print axioms memGrows_holds
end Go.Proofs.Ytfjnhdbbjggkmaa
