/- The law TableGrows: facts of its row, one by one. -/
import Derived.Test.YtfjnhdbbjggkmaaDoor
import Derived.JoinedOf
set_option linter.unusedVariables false
namespace Go.Proofs.Ytfjnhdbbjggkmaa.tableGrows
open Go
theorem fact0 : (Rows.tableGrowsRow.inPlace == Try.prog.inPlace 10) = true := by kernel_rfl
theorem fact1 : (Rows.tableGrowsRow.unfollowed == Try.prog.unfollowed 10) = true := by kernel_rfl
theorem fact2 : (Rows.tableGrowsRow.recurses == Try.prog.recurses 10) = true := by kernel_rfl
theorem fact3 : (Rows.tableGrowsRow.named == Try.prog.varsNamed 10) = true := by kernel_rfl
theorem fact4 : (Rows.tableGrowsRow.lifted == Try.prog.liftsFinal) = true := by kernel_rfl
theorem fact5 : (Rows.tableGrowsRow.plainKeys == Try.prog.plainKeys) = true := by kernel_rfl
theorem fact6 : (Try.prog.make == some Rows.tableGrowsRow.make) = true := by kernel_rfl
end Go.Proofs.Ytfjnhdbbjggkmaa.tableGrows
