/- The law HouseRooms of the given program, for every input: its row and its tied card. -/
import Derived.Test.YtlaeoahhfalkiaaGreatDoorRowHouseRooms
import Derived.Test.YtlaeoahhfalkiaaGreatDoorFactHouseRooms
import Derived.Test.YtlaeoahhfalkiaaGreatDoorTie
import Derived.Test.YtlaeoahhfalkiaaGreatDoorCards
import Derived.SevenTiedAt
set_option linter.unusedVariables false
set_option linter.unusedSimpArgs false
namespace Go.Proofs.YtlaeoahhfalkiaaGreatDoor.houseRooms
open Go.ChangeShapes Go.WideShapes Go.ChangeAt Go.RowKit
theorem facts : joinedFacts Tryz.prog 4 Tryz.f4 Rows.houseRoomsSpec Rows.houseRoomsRow = true := by
  simp only [joinedFacts, fact_laidOut, fact_rowed, fact_heard, fact_enter, fact0, fact1, fact2, fact3, fact4, fact5, fact6, Bool.and_true, Bool.true_and]
  kernel_rfl
theorem over : Rows.houseRoomsRow.holds Tryz.pinned (OpenSpec.ofChange Rows.houseRoomsSpec) :=
  OpenClaim.holds_of_wide 4 Tryz.f4 rfl rfl rfl rfl rfl rfl rfl ⟨rfl, rfl, rfl, rfl, rfl⟩ rfl rfl rfl rfl rfl (by kernel_rfl) Tryz.func4 facts
    (of_decide_eq_true (by kernel_rfl)) (by unfold Func.isWrapper; first | (rw [if_pos (by decide +kernel)]; kernel_rfl) | (rw [if_neg (by decide +kernel)]; exact ⟨rfl, rfl⟩))
    (fun os started H enc _ => lifted os started H enc)
theorem proved : Rows.HouseRoomsSaid := over
#print axioms proved
end Go.Proofs.YtlaeoahhfalkiaaGreatDoor.houseRooms
namespace Go.Proofs.YtlaeoahhfalkiaaGreatDoor
/-- The tied card. -/
theorem houseRooms_card : Rows.HouseRoomsCardSaid :=
  Claim7.holds_tied_plain_at .later [] [.data, .data] true (true, "6575e27bc65bffb2835efbcc9520353dcc8f323a8ee0b75842d56dc8f0ec1e10") false
    houseRooms.proved (fun _ h => by cases h) (by kernel_rfl) (fun _ h => by cases h) houseRooms_row_tie rfl ⟨rfl, rfl⟩ (by kernel_rfl) rfl
    (fun f fn hf hfn => by
      obtain rfl : f = 4 := Option.some.inj ((show Tryz.prog.funcNamed "cloakroom/cloakroomlaw27.HouseRooms" = some 4 by kernel_rfl).symm.trans hf) |>.symm
      obtain rfl : fn = Tryz.f4 := (Option.some.inj (Tryz.func4.symm.trans hfn)).symm
      exact ⟨by kernel_rfl, fun j t ht => by
        rw [Tryz.params4] at ht
        have hm : t ∈ [5, 22] := by simpa using Array.mem_of_getElem? ht
        have hall : ([5, 22].all fun u => !Tryz.prog.wantsStandIn u) = true := by kernel_rfl
        exact (show Tryz.prog.wantsStandIn t = false by simpa using List.all_eq_true.1 hall t hm)⟩)
    (by kernel_rfl)
#print axioms houseRooms_card
end Go.Proofs.YtlaeoahhfalkiaaGreatDoor
