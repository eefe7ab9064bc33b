/- The law CallNone: facts of its row, one by one. -/
import Derived.Test.YtkmlhhiialbfgaaGreatDoorDoor
import Derived.JoinedOf
set_option linter.unusedVariables false
namespace Go.Proofs.YtkmlhhiialbfgaaGreatDoor.callNone
open Go
theorem fact0 : (Rows.callNoneRow.inPlace == Tryz.prog.inPlace 3) = true := by kernel_rfl
theorem fact1 : (Rows.callNoneRow.unfollowed == Tryz.prog.unfollowed 3) = true := by kernel_rfl
theorem fact2 : (Rows.callNoneRow.recurses == Tryz.prog.recurses 3) = true := by kernel_rfl
theorem fact3 : (Rows.callNoneRow.named == Tryz.prog.varsNamed 3) = true := by kernel_rfl
theorem fact4 : (Rows.callNoneRow.lifted == Tryz.prog.liftsFinal) = true := by kernel_rfl
theorem fact5 : (Rows.callNoneRow.plainKeys == Tryz.prog.plainKeys) = true := by kernel_rfl
theorem fact6 : (Tryz.prog.make == some Rows.callNoneRow.make) = true := by kernel_rfl
end Go.Proofs.YtkmlhhiialbfgaaGreatDoor.callNone
