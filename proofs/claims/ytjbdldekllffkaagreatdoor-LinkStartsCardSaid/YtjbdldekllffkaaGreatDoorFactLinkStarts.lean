/- The law LinkStarts: facts of its row, one by one. -/
import Derived.Test.YtjbdldekllffkaaGreatDoorDoor
import Derived.JoinedOf
set_option linter.unusedVariables false
namespace Go.Proofs.YtjbdldekllffkaaGreatDoor.linkStarts
open Go
theorem fact0 : (Rows.linkStartsRow.inPlace == Tryz.prog.inPlace 13) = true := by kernel_rfl
theorem fact1 : (Rows.linkStartsRow.unfollowed == Tryz.prog.unfollowed 13) = true := by kernel_rfl
theorem fact2 : (Rows.linkStartsRow.recurses == Tryz.prog.recurses 13) = true := by kernel_rfl
theorem fact3 : (Rows.linkStartsRow.named == Tryz.prog.varsNamed 13) = true := by kernel_rfl
theorem fact4 : (Rows.linkStartsRow.lifted == Tryz.prog.liftsFinal) = true := by kernel_rfl
theorem fact5 : (Rows.linkStartsRow.plainKeys == Tryz.prog.plainKeys) = true := by kernel_rfl
theorem fact6 : (Tryz.prog.make == some Rows.linkStartsRow.make) = true := by kernel_rfl
end Go.Proofs.YtjbdldekllffkaaGreatDoor.linkStarts
