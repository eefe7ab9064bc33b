/- The law NumOnes: facts of its row, one by one. -/
import Derived.Test.YtpbnbgjclalpeaaDoorDoor
import Derived.JoinedOf
set_option linter.unusedVariables false
namespace Go.Proofs.YtpbnbgjclalpeaaDoor.numOnes
open Go
theorem fact0 : (Rows.numOnesRow.inPlace == Tryd.prog.inPlace 3) = true := by kernel_rfl
theorem fact1 : (Rows.numOnesRow.unfollowed == Tryd.prog.unfollowed 3) = true := by kernel_rfl
theorem fact2 : (Rows.numOnesRow.recurses == Tryd.prog.recurses 3) = true := by kernel_rfl
theorem fact3 : (Rows.numOnesRow.named == Tryd.prog.varsNamed 3) = true := by kernel_rfl
theorem fact4 : (Rows.numOnesRow.lifted == Tryd.prog.liftsFinal) = true := by kernel_rfl
theorem fact5 : (Rows.numOnesRow.plainKeys == Tryd.prog.plainKeys) = true := by kernel_rfl
theorem fact6 : (Tryd.prog.make == some Rows.numOnesRow.make) = true := by kernel_rfl
end Go.Proofs.YtpbnbgjclalpeaaDoor.numOnes
