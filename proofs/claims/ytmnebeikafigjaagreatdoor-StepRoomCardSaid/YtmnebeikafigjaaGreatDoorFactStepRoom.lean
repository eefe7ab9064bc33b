/- The law StepRoom: facts of its row, one by one. -/
import Derived.Test.YtmnebeikafigjaaGreatDoorDoor
import Derived.JoinedOf
set_option linter.unusedVariables false
namespace Go.Proofs.YtmnebeikafigjaaGreatDoor.stepRoom
open Go
theorem fact0 : (Rows.stepRoomRow.inPlace == Tryz.prog.inPlace 3) = true := by kernel_rfl
theorem fact1 : (Rows.stepRoomRow.unfollowed == Tryz.prog.unfollowed 3) = true := by kernel_rfl
theorem fact2 : (Rows.stepRoomRow.recurses == Tryz.prog.recurses 3) = true := by kernel_rfl
theorem fact3 : (Rows.stepRoomRow.named == Tryz.prog.varsNamed 3) = true := by kernel_rfl
theorem fact4 : (Rows.stepRoomRow.lifted == Tryz.prog.liftsFinal) = true := by kernel_rfl
theorem fact5 : (Rows.stepRoomRow.plainKeys == Tryz.prog.plainKeys) = true := by kernel_rfl
theorem fact6 : (Tryz.prog.make == some Rows.stepRoomRow.make) = true := by kernel_rfl
end Go.Proofs.YtmnebeikafigjaaGreatDoor.stepRoom
