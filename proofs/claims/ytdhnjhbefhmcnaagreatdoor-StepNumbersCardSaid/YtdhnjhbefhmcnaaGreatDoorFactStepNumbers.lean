/- The law StepNumbers: facts of its row, one by one. -/
import Derived.Test.YtdhnjhbefhmcnaaGreatDoorDoor
import Derived.JoinedOf
set_option linter.unusedVariables false
namespace Go.Proofs.YtdhnjhbefhmcnaaGreatDoor.stepNumbers
open Go
theorem fact0 : (Rows.stepNumbersRow.inPlace == Tryz.prog.inPlace 3) = true := by kernel_rfl
theorem fact1 : (Rows.stepNumbersRow.unfollowed == Tryz.prog.unfollowed 3) = true := by kernel_rfl
theorem fact2 : (Rows.stepNumbersRow.recurses == Tryz.prog.recurses 3) = true := by kernel_rfl
theorem fact3 : (Rows.stepNumbersRow.named == Tryz.prog.varsNamed 3) = true := by kernel_rfl
theorem fact4 : (Rows.stepNumbersRow.lifted == Tryz.prog.liftsFinal) = true := by kernel_rfl
theorem fact5 : (Rows.stepNumbersRow.plainKeys == Tryz.prog.plainKeys) = true := by kernel_rfl
theorem fact6 : (Tryz.prog.make == some Rows.stepNumbersRow.make) = true := by kernel_rfl
end Go.Proofs.YtdhnjhbefhmcnaaGreatDoor.stepNumbers
