/- The law HouseOrder: facts of its row, one by one. -/
import Derived.Test.YtlaeoahhfalkiaaGreatDoorDoor
import Derived.JoinedOf
set_option linter.unusedVariables false
namespace Go.Proofs.YtlaeoahhfalkiaaGreatDoor.houseOrder
open Go
theorem fact0 : (Rows.houseOrderRow.inPlace == Tryz.prog.inPlace 3) = true := by kernel_rfl
theorem fact1 : (Rows.houseOrderRow.unfollowed == Tryz.prog.unfollowed 3) = true := by kernel_rfl
theorem fact2 : (Rows.houseOrderRow.recurses == Tryz.prog.recurses 3) = true := by kernel_rfl
theorem fact3 : (Rows.houseOrderRow.named == Tryz.prog.varsNamed 3) = true := by kernel_rfl
theorem fact4 : (Rows.houseOrderRow.lifted == Tryz.prog.liftsFinal) = true := by kernel_rfl
theorem fact5 : (Rows.houseOrderRow.plainKeys == Tryz.prog.plainKeys) = true := by kernel_rfl
theorem fact6 : (Tryz.prog.make == some Rows.houseOrderRow.make) = true := by kernel_rfl
end Go.Proofs.YtlaeoahhfalkiaaGreatDoor.houseOrder
