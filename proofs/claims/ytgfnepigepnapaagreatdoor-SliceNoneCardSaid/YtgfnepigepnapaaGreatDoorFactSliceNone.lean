/- The law SliceNone: facts of its row, one by one. -/
import Derived.Test.YtgfnepigepnapaaGreatDoorDoor
import Derived.JoinedOf
set_option linter.unusedVariables false
namespace Go.Proofs.YtgfnepigepnapaaGreatDoor.sliceNone
open Go
theorem fact0 : (Rows.sliceNoneRow.inPlace == Tryz.prog.inPlace 4) = true := by kernel_rfl
theorem fact1 : (Rows.sliceNoneRow.unfollowed == Tryz.prog.unfollowed 4) = true := by kernel_rfl
theorem fact2 : (Rows.sliceNoneRow.recurses == Tryz.prog.recurses 4) = true := by kernel_rfl
theorem fact3 : (Rows.sliceNoneRow.named == Tryz.prog.varsNamed 4) = true := by kernel_rfl
theorem fact4 : (Rows.sliceNoneRow.lifted == Tryz.prog.liftsFinal) = true := by kernel_rfl
theorem fact5 : (Rows.sliceNoneRow.plainKeys == Tryz.prog.plainKeys) = true := by kernel_rfl
theorem fact6 : (Tryz.prog.make == some Rows.sliceNoneRow.make) = true := by kernel_rfl
end Go.Proofs.YtgfnepigepnapaaGreatDoor.sliceNone
