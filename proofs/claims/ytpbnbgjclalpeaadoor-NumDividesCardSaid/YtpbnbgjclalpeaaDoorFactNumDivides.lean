/- The law NumDivides: facts of its row, one by one. -/
import Derived.Test.YtpbnbgjclalpeaaDoorDoor
import Derived.JoinedOf
set_option linter.unusedVariables false
namespace Go.Proofs.YtpbnbgjclalpeaaDoor.numDivides
open Go
theorem fact0 : (Rows.numDividesRow.inPlace == Tryd.prog.inPlace 6) = true := by kernel_rfl
theorem fact1 : (Rows.numDividesRow.unfollowed == Tryd.prog.unfollowed 6) = true := by kernel_rfl
theorem fact2 : (Rows.numDividesRow.recurses == Tryd.prog.recurses 6) = true := by kernel_rfl
theorem fact3 : (Rows.numDividesRow.named == Tryd.prog.varsNamed 6) = true := by kernel_rfl
theorem fact4 : (Rows.numDividesRow.lifted == Tryd.prog.liftsFinal) = true := by kernel_rfl
theorem fact5 : (Rows.numDividesRow.plainKeys == Tryd.prog.plainKeys) = true := by kernel_rfl
theorem fact6 : (Tryd.prog.make == some Rows.numDividesRow.make) = true := by kernel_rfl
end Go.Proofs.YtpbnbgjclalpeaaDoor.numDivides
