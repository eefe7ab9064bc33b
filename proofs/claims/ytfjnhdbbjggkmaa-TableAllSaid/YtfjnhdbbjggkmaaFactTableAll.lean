/- The law TableAll: facts of its row, one by one. -/
import Derived.Test.YtfjnhdbbjggkmaaDoor
import Derived.JoinedOf
set_option linter.unusedVariables false
namespace Go.Proofs.Ytfjnhdbbjggkmaa.tableAll
open Go
theorem fact0 : (Rows.tableAllRow.inPlace == Try.prog.inPlace 8) = true := by kernel_rfl
theorem fact1 : (Rows.tableAllRow.unfollowed == Try.prog.unfollowed 8) = true := by kernel_rfl
theorem fact2 : (Rows.tableAllRow.recurses == Try.prog.recurses 8) = true := by kernel_rfl
theorem fact3 : (Rows.tableAllRow.named == Try.prog.varsNamed 8) = true := by kernel_rfl
theorem fact4 : (Rows.tableAllRow.lifted == Try.prog.liftsFinal) = true := by kernel_rfl
theorem fact5 : (Rows.tableAllRow.plainKeys == Try.prog.plainKeys) = true := by kernel_rfl
theorem fact6 : (Try.prog.make == some Rows.tableAllRow.make) = true := by kernel_rfl
end Go.Proofs.Ytfjnhdbbjggkmaa.tableAll
