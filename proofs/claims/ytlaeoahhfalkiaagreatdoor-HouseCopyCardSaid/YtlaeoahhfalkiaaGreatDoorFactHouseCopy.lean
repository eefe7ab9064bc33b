/- The law HouseCopy: facts of its row, one by one. -/
import Derived.Test.YtlaeoahhfalkiaaGreatDoorDoor
import Derived.JoinedOf
set_option linter.unusedVariables false
namespace Go.Proofs.YtlaeoahhfalkiaaGreatDoor.houseCopy
open Go
theorem fact0 : (Rows.houseCopyRow.inPlace == Tryz.prog.inPlace 5) = true := by kernel_rfl
theorem fact1 : (Rows.houseCopyRow.unfollowed == Tryz.prog.unfollowed 5) = true := by kernel_rfl
theorem fact2 : (Rows.houseCopyRow.recurses == Tryz.prog.recurses 5) = true := by kernel_rfl
theorem fact3 : (Rows.houseCopyRow.named == Tryz.prog.varsNamed 5) = true := by kernel_rfl
theorem fact4 : (Rows.houseCopyRow.lifted == Tryz.prog.liftsFinal) = true := by kernel_rfl
theorem fact5 : (Rows.houseCopyRow.plainKeys == Tryz.prog.plainKeys) = true := by kernel_rfl
theorem fact6 : (Tryz.prog.make == some Rows.houseCopyRow.make) = true := by kernel_rfl
end Go.Proofs.YtlaeoahhfalkiaaGreatDoor.houseCopy
