/- The law HouseRooms: facts of its row, one by one. -/
import Derived.Test.YtlaeoahhfalkiaaGreatDoorDoor
import Derived.JoinedOf
set_option linter.unusedVariables false
namespace Go.Proofs.YtlaeoahhfalkiaaGreatDoor.houseRooms
open Go
theorem fact0 : (Rows.houseRoomsRow.inPlace == Tryz.prog.inPlace 4) = true := by kernel_rfl
theorem fact1 : (Rows.houseRoomsRow.unfollowed == Tryz.prog.unfollowed 4) = true := by kernel_rfl
theorem fact2 : (Rows.houseRoomsRow.recurses == Tryz.prog.recurses 4) = true := by kernel_rfl
theorem fact3 : (Rows.houseRoomsRow.named == Tryz.prog.varsNamed 4) = true := by kernel_rfl
theorem fact4 : (Rows.houseRoomsRow.lifted == Tryz.prog.liftsFinal) = true := by kernel_rfl
theorem fact5 : (Rows.houseRoomsRow.plainKeys == Tryz.prog.plainKeys) = true := by kernel_rfl
theorem fact6 : (Tryz.prog.make == some Rows.houseRoomsRow.make) = true := by kernel_rfl
end Go.Proofs.YtlaeoahhfalkiaaGreatDoor.houseRooms
