/- The law NumBits: facts of its row, one by one. -/
import Derived.Test.YtpbnbgjclalpeaaDoorDoor
import Derived.JoinedOf
set_option linter.unusedVariables false
namespace Go.Proofs.YtpbnbgjclalpeaaDoor.numBits
open Go
theorem fact0 : (Rows.numBitsRow.inPlace == Tryd.prog.inPlace 9) = true := by kernel_rfl
theorem fact1 : (Rows.numBitsRow.unfollowed == Tryd.prog.unfollowed 9) = true := by kernel_rfl
theorem fact2 : (Rows.numBitsRow.recurses == Tryd.prog.recurses 9) = true := by kernel_rfl
theorem fact3 : (Rows.numBitsRow.named == Tryd.prog.varsNamed 9) = true := by kernel_rfl
theorem fact4 : (Rows.numBitsRow.lifted == Tryd.prog.liftsFinal) = true := by kernel_rfl
theorem fact5 : (Rows.numBitsRow.plainKeys == Tryd.prog.plainKeys) = true := by kernel_rfl
theorem fact6 : (Tryd.prog.make == some Rows.numBitsRow.make) = true := by kernel_rfl
end Go.Proofs.YtpbnbgjclalpeaaDoor.numBits
