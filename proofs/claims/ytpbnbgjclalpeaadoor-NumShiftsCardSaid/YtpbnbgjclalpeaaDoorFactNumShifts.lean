/- The law NumShifts: facts of its row, one by one. -/
import Derived.Test.YtpbnbgjclalpeaaDoorDoor
import Derived.JoinedOf
set_option linter.unusedVariables false
namespace Go.Proofs.YtpbnbgjclalpeaaDoor.numShifts
open Go
theorem fact0 : (Rows.numShiftsRow.inPlace == Tryd.prog.inPlace 7) = true := by kernel_rfl
theorem fact1 : (Rows.numShiftsRow.unfollowed == Tryd.prog.unfollowed 7) = true := by kernel_rfl
theorem fact2 : (Rows.numShiftsRow.recurses == Tryd.prog.recurses 7) = true := by kernel_rfl
theorem fact3 : (Rows.numShiftsRow.named == Tryd.prog.varsNamed 7) = true := by kernel_rfl
theorem fact4 : (Rows.numShiftsRow.lifted == Tryd.prog.liftsFinal) = true := by kernel_rfl
theorem fact5 : (Rows.numShiftsRow.plainKeys == Tryd.prog.plainKeys) = true := by kernel_rfl
theorem fact6 : (Tryd.prog.make == some Rows.numShiftsRow.make) = true := by kernel_rfl
end Go.Proofs.YtpbnbgjclalpeaaDoor.numShifts
