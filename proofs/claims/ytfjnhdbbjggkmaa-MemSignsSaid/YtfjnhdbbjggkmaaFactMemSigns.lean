/- The law MemSigns: facts of its row, one by one. -/
import Derived.Test.YtfjnhdbbjggkmaaDoor
import Derived.JoinedOf
set_option linter.unusedVariables false
namespace Go.Proofs.Ytfjnhdbbjggkmaa.memSigns
open Go
theorem fact0 : (Rows.memSignsRow.inPlace == Try.prog.inPlace 6) = true := by kernel_rfl
theorem fact1 : (Rows.memSignsRow.unfollowed == Try.prog.unfollowed 6) = true := by kernel_rfl
theorem fact2 : (Rows.memSignsRow.recurses == Try.prog.recurses 6) = true := by kernel_rfl
theorem fact3 : (Rows.memSignsRow.named == Try.prog.varsNamed 6) = true := by kernel_rfl
theorem fact4 : (Rows.memSignsRow.lifted == Try.prog.liftsFinal) = true := by kernel_rfl
theorem fact5 : (Rows.memSignsRow.plainKeys == Try.prog.plainKeys) = true := by kernel_rfl
theorem fact6 : (Try.prog.make == some Rows.memSignsRow.make) = true := by kernel_rfl
end Go.Proofs.Ytfjnhdbbjggkmaa.memSigns
