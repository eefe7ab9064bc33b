/- The law HouseStops of the given program, for every input: its row and its tied card. -/
import Derived.Test.YtkmlhhiialbfgaaGreatDoorRowHouseStops
import Derived.Test.YtkmlhhiialbfgaaGreatDoorTie
import Derived.Test.YtkmlhhiialbfgaaGreatDoorCards
import Derived.SevenTiedAt
set_option linter.unusedVariables false
namespace Go.Proofs.YtkmlhhiialbfgaaGreatDoor.houseStops
open Go.ChangeShapes Go.WideShapes Go.ChangeAt Go.RowKit
theorem over : Rows.houseStopsRow.holds Tryz.pinned (OpenSpec.ofChange Rows.houseStopsSpec) :=
  OpenClaim.holds_of_wide 7 Tryz.f7 rfl rfl rfl rfl rfl rfl rfl ⟨rfl, rfl, rfl, rfl, rfl⟩ rfl rfl rfl rfl rfl (by kernel_rfl) Tryz.func7 (by kernel_rfl)
    (of_decide_eq_true (by kernel_rfl)) (by unfold Func.isWrapper; first | (rw [if_pos (by decide +kernel)]; kernel_rfl) | (rw [if_neg (by decide +kernel)]; exact ⟨rfl, rfl⟩))
    (fun os started H enc _ => lifted os started H enc)
theorem proved : Rows.HouseStopsSaid := over
#print axioms proved
end Go.Proofs.YtkmlhhiialbfgaaGreatDoor.houseStops
namespace Go.Proofs.YtkmlhhiialbfgaaGreatDoor
/-- The tied card. -/
theorem houseStops_card : Rows.HouseStopsCardSaid :=
  Claim7.holds_tied_plain_at .later [] [.data, .data] true (true, "c6d2b9488acac07dfeddec2354b33e2206690df0de4901fc5f66fb52fb4ff9e9") false
    houseStops.proved (fun _ h => by cases h) (by kernel_rfl) (fun _ h => by cases h) houseStops_row_tie rfl ⟨rfl, rfl⟩ (by kernel_rfl) rfl
    (fun f fn hf hfn => by
      obtain rfl : f = 7 := Option.some.inj ((show Tryz.prog.funcNamed "cloakroom/cloakroomlaw27.HouseStops" = some 7 by kernel_rfl).symm.trans hf) |>.symm
      obtain rfl : fn = Tryz.f7 := (Option.some.inj (Tryz.func7.symm.trans hfn)).symm
      exact ⟨by kernel_rfl, fun j t ht => by
        rw [Tryz.params7] at ht
        have hm : t ∈ [5, 5, 4, 5] := by simpa using Array.mem_of_getElem? ht
        have hall : ([5, 5, 4, 5].all fun u => !Tryz.prog.wantsStandIn u) = true := by kernel_rfl
        exact (show Tryz.prog.wantsStandIn t = false by simpa using List.all_eq_true.1 hall t hm)⟩)
    (by kernel_rfl)
#print axioms houseStops_card
end Go.Proofs.YtkmlhhiialbfgaaGreatDoor
