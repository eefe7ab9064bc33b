/- The law MemBytes: facts of its row, one by one. -/
import Derived.Test.YtfjnhdbbjggkmaaDoor
import Derived.JoinedOf
set_option linter.unusedVariables false
namespace Go.Proofs.Ytfjnhdbbjggkmaa.memBytes
open Go
theorem fact0 : (Rows.memBytesRow.inPlace == Try.prog.inPlace 7) = true := by kernel_rfl
theorem fact1 : (Rows.memBytesRow.unfollowed == Try.prog.unfollowed 7) = true := by kernel_rfl
theorem fact2 : (Rows.memBytesRow.recurses == Try.prog.recurses 7) = true := by kernel_rfl
theorem fact3 : (Rows.memBytesRow.named == Try.prog.varsNamed 7) = true := by kernel_rfl
theorem fact4 : (Rows.memBytesRow.lifted == Try.prog.liftsFinal) = true := by kernel_rfl
theorem fact5 : (Rows.memBytesRow.plainKeys == Try.prog.plainKeys) = true := by kernel_rfl
theorem fact6 : (Try.prog.make == some Rows.memBytesRow.make) = true := by kernel_rfl
end Go.Proofs.Ytfjnhdbbjggkmaa.memBytes
