/- The law NumTwos: facts of its row, one by one. -/
import Derived.Test.YtpbnbgjclalpeaaDoorDoor
import Derived.JoinedOf
set_option linter.unusedVariables false
namespace Go.Proofs.YtpbnbgjclalpeaaDoor.numTwos
open Go
theorem fact0 : (Rows.numTwosRow.inPlace == Tryd.prog.inPlace 4) = true := by kernel_rfl
theorem fact1 : (Rows.numTwosRow.unfollowed == Tryd.prog.unfollowed 4) = true := by kernel_rfl
theorem fact2 : (Rows.numTwosRow.recurses == Tryd.prog.recurses 4) = true := by kernel_rfl
theorem fact3 : (Rows.numTwosRow.named == Tryd.prog.varsNamed 4) = true := by kernel_rfl
theorem fact4 : (Rows.numTwosRow.lifted == Tryd.prog.liftsFinal) = true := by kernel_rfl
theorem fact5 : (Rows.numTwosRow.plainKeys == Tryd.prog.plainKeys) = true := by kernel_rfl
theorem fact6 : (Tryd.prog.make == some Rows.numTwosRow.make) = true := by kernel_rfl
end Go.Proofs.YtpbnbgjclalpeaaDoor.numTwos
