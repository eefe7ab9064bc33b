/- The law NumLow: facts of its row, one by one. -/
import Derived.Test.YtpbnbgjclalpeaaDoorDoor
import Derived.JoinedOf
set_option linter.unusedVariables false
namespace Go.Proofs.YtpbnbgjclalpeaaDoor.numLow
open Go
theorem fact0 : (Rows.numLowRow.inPlace == Tryd.prog.inPlace 11) = true := by kernel_rfl
theorem fact1 : (Rows.numLowRow.unfollowed == Tryd.prog.unfollowed 11) = true := by kernel_rfl
theorem fact2 : (Rows.numLowRow.recurses == Tryd.prog.recurses 11) = true := by kernel_rfl
theorem fact3 : (Rows.numLowRow.named == Tryd.prog.varsNamed 11) = true := by kernel_rfl
theorem fact4 : (Rows.numLowRow.lifted == Tryd.prog.liftsFinal) = true := by kernel_rfl
theorem fact5 : (Rows.numLowRow.plainKeys == Tryd.prog.plainKeys) = true := by kernel_rfl
theorem fact6 : (Tryd.prog.make == some Rows.numLowRow.make) = true := by kernel_rfl
end Go.Proofs.YtpbnbgjclalpeaaDoor.numLow
