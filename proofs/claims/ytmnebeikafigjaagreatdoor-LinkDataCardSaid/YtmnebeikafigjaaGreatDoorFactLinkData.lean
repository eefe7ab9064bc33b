/- The law LinkData: facts of its row, one by one. -/
import Derived.Test.YtmnebeikafigjaaGreatDoorDoor
import Derived.JoinedOf
set_option linter.unusedVariables false
namespace Go.Proofs.YtmnebeikafigjaaGreatDoor.linkData
open Go
theorem fact0 : (Rows.linkDataRow.inPlace == Tryz.prog.inPlace 7) = true := by kernel_rfl
theorem fact1 : (Rows.linkDataRow.unfollowed == Tryz.prog.unfollowed 7) = true := by kernel_rfl
theorem fact2 : (Rows.linkDataRow.recurses == Tryz.prog.recurses 7) = true := by kernel_rfl
theorem fact3 : (Rows.linkDataRow.named == Tryz.prog.varsNamed 7) = true := by kernel_rfl
theorem fact4 : (Rows.linkDataRow.lifted == Tryz.prog.liftsFinal) = true := by kernel_rfl
theorem fact5 : (Rows.linkDataRow.plainKeys == Tryz.prog.plainKeys) = true := by kernel_rfl
theorem fact6 : (Tryz.prog.make == some Rows.linkDataRow.make) = true := by kernel_rfl
end Go.Proofs.YtmnebeikafigjaaGreatDoor.linkData
