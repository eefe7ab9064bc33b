/- The law TableSelf: facts of its row, one by one. -/
import Derived.Test.YtfjnhdbbjggkmaaDoor
import Derived.JoinedOf
set_option linter.unusedVariables false
namespace Go.Proofs.Ytfjnhdbbjggkmaa.tableSelf
open Go
theorem fact0 : (Rows.tableSelfRow.inPlace == Try.prog.inPlace 9) = true := by kernel_rfl
theorem fact1 : (Rows.tableSelfRow.unfollowed == Try.prog.unfollowed 9) = true := by kernel_rfl
theorem fact2 : (Rows.tableSelfRow.recurses == Try.prog.recurses 9) = true := by kernel_rfl
theorem fact3 : (Rows.tableSelfRow.named == Try.prog.varsNamed 9) = true := by kernel_rfl
theorem fact4 : (Rows.tableSelfRow.lifted == Try.prog.liftsFinal) = true := by kernel_rfl
theorem fact5 : (Rows.tableSelfRow.plainKeys == Try.prog.plainKeys) = true := by kernel_rfl
theorem fact6 : (Try.prog.make == some Rows.tableSelfRow.make) = true := by kernel_rfl
end Go.Proofs.Ytfjnhdbbjggkmaa.tableSelf
