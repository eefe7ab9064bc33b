/- The law MemBack: facts of its row, one by one. -/
import Derived.Test.YtfjnhdbbjggkmaaDoor
import Derived.JoinedOf
set_option linter.unusedVariables false
namespace Go.Proofs.Ytfjnhdbbjggkmaa.memBack
open Go
theorem fact0 : (Rows.memBackRow.inPlace == Try.prog.inPlace 3) = true := by kernel_rfl
theorem fact1 : (Rows.memBackRow.unfollowed == Try.prog.unfollowed 3) = true := by kernel_rfl
theorem fact2 : (Rows.memBackRow.recurses == Try.prog.recurses 3) = true := by kernel_rfl
theorem fact3 : (Rows.memBackRow.named == Try.prog.varsNamed 3) = true := by kernel_rfl
theorem fact4 : (Rows.memBackRow.lifted == Try.prog.liftsFinal) = true := by kernel_rfl
theorem fact5 : (Rows.memBackRow.plainKeys == Try.prog.plainKeys) = true := by kernel_rfl
theorem fact6 : (Try.prog.make == some Rows.memBackRow.make) = true := by kernel_rfl
end Go.Proofs.Ytfjnhdbbjggkmaa.memBack
