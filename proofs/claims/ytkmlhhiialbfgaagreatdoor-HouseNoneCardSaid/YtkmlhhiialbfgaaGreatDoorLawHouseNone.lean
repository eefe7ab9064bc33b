/- The law HouseNone of the given program, for every input: its row and its tied card. -/
import Derived.Test.YtkmlhhiialbfgaaGreatDoorRowHouseNone
import Derived.Test.YtkmlhhiialbfgaaGreatDoorTie
import Derived.Test.YtkmlhhiialbfgaaGreatDoorCards
import Derived.SevenTiedAt
set_option linter.unusedVariables false
namespace Go.Proofs.YtkmlhhiialbfgaaGreatDoor.houseNone
open Go.ChangeShapes Go.WideShapes Go.ChangeAt Go.RowKit
theorem over : Rows.houseNoneRow.holds Tryz.pinned (OpenSpec.ofChange Rows.houseNoneSpec) :=
  OpenClaim.holds_of_wide 6 Tryz.f6 rfl rfl rfl rfl rfl rfl rfl ⟨rfl, rfl, rfl, rfl, rfl⟩ rfl rfl rfl rfl rfl (by kernel_rfl) Tryz.func6 (by kernel_rfl)
    (of_decide_eq_true (by kernel_rfl)) (by unfold Func.isWrapper; first | (rw [if_pos (by decide +kernel)]; kernel_rfl) | (rw [if_neg (by decide +kernel)]; exact ⟨rfl, rfl⟩))
    (fun os started H enc _ => lifted os started H enc)
theorem proved : Rows.HouseNoneSaid := over
#print axioms proved
end Go.Proofs.YtkmlhhiialbfgaaGreatDoor.houseNone
namespace Go.Proofs.YtkmlhhiialbfgaaGreatDoor
/-- The tied card. -/
theorem houseNone_card : Rows.HouseNoneCardSaid :=
  Claim7.holds_tied_plain_at .later [] [.data, .data] true (true, "c6d2b9488acac07dfeddec2354b33e2206690df0de4901fc5f66fb52fb4ff9e9") false
    houseNone.proved (fun _ h => by cases h) (by kernel_rfl) (fun _ h => by cases h) houseNone_row_tie rfl ⟨rfl, rfl⟩ (by kernel_rfl) rfl
    (fun f fn hf hfn => by
      obtain rfl : f = 6 := Option.some.inj ((show Tryz.prog.funcNamed "cloakroom/cloakroomlaw27.HouseNone" = some 6 by kernel_rfl).symm.trans hf) |>.symm
      obtain rfl : fn = Tryz.f6 := (Option.some.inj (Tryz.func6.symm.trans hfn)).symm
      exact ⟨by kernel_rfl, fun j t ht => by
        rw [Tryz.params6] at ht
        simp at ht⟩)
    (by kernel_rfl)
#print axioms houseNone_card
end Go.Proofs.YtkmlhhiialbfgaaGreatDoor
