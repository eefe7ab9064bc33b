/- The law CallArgs: facts of its row, one by one. -/
import Derived.Test.YtkmlhhiialbfgaaGreatDoorDoor
import Derived.JoinedOf
set_option linter.unusedVariables false
namespace Go.Proofs.YtkmlhhiialbfgaaGreatDoor.callArgs
open Go
theorem fact0 : (Rows.callArgsRow.inPlace == Tryz.prog.inPlace 4) = true := by kernel_rfl
theorem fact1 : (Rows.callArgsRow.unfollowed == Tryz.prog.unfollowed 4) = true := by kernel_rfl
theorem fact2 : (Rows.callArgsRow.recurses == Tryz.prog.recurses 4) = true := by kernel_rfl
theorem fact3 : (Rows.callArgsRow.named == Tryz.prog.varsNamed 4) = true := by kernel_rfl
theorem fact4 : (Rows.callArgsRow.lifted == Tryz.prog.liftsFinal) = true := by kernel_rfl
theorem fact5 : (Rows.callArgsRow.plainKeys == Tryz.prog.plainKeys) = true := by kernel_rfl
theorem fact6 : (Tryz.prog.make == some Rows.callArgsRow.make) = true := by kernel_rfl
end Go.Proofs.YtkmlhhiialbfgaaGreatDoor.callArgs
