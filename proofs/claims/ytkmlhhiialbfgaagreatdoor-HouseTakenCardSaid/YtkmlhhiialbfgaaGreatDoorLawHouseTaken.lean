/- The law HouseTaken of the given program, for every input: its row and its tied card. -/
import Derived.Test.YtkmlhhiialbfgaaGreatDoorRowHouseTaken
import Derived.Test.YtkmlhhiialbfgaaGreatDoorTie
import Derived.Test.YtkmlhhiialbfgaaGreatDoorCards
import Derived.SevenTiedAt
set_option linter.unusedVariables false
namespace Go.Proofs.YtkmlhhiialbfgaaGreatDoor.houseTaken
open Go.ChangeShapes Go.WideShapes Go.ChangeAt Go.RowKit
theorem over : Rows.houseTakenRow.holds Tryz.pinned (OpenSpec.ofChange Rows.houseTakenSpec) :=
  OpenClaim.holds_of_wide 5 Tryz.f5 rfl rfl rfl rfl rfl rfl rfl ⟨rfl, rfl, rfl, rfl, rfl⟩ rfl rfl rfl rfl rfl (by kernel_rfl) Tryz.func5 (by kernel_rfl)
    (of_decide_eq_true (by kernel_rfl)) (by unfold Func.isWrapper; first | (rw [if_pos (by decide +kernel)]; kernel_rfl) | (rw [if_neg (by decide +kernel)]; exact ⟨rfl, rfl⟩))
    (fun os started H enc _ => lifted os started H enc)
theorem proved : Rows.HouseTakenSaid := over
#print axioms proved
end Go.Proofs.YtkmlhhiialbfgaaGreatDoor.houseTaken
namespace Go.Proofs.YtkmlhhiialbfgaaGreatDoor
/-- The tied card. -/
theorem houseTaken_card : Rows.HouseTakenCardSaid :=
  Claim7.holds_tied_plain_at .later [] [.data, .data] true (true, "c6d2b9488acac07dfeddec2354b33e2206690df0de4901fc5f66fb52fb4ff9e9") false
    houseTaken.proved (fun _ h => by cases h) (by kernel_rfl) (fun _ h => by cases h) houseTaken_row_tie rfl ⟨rfl, rfl⟩ (by kernel_rfl) rfl
    (fun f fn hf hfn => by
      obtain rfl : f = 5 := Option.some.inj ((show Tryz.prog.funcNamed "cloakroom/cloakroomlaw27.HouseTaken" = some 5 by kernel_rfl).symm.trans hf) |>.symm
      obtain rfl : fn = Tryz.f5 := (Option.some.inj (Tryz.func5.symm.trans hfn)).symm
      exact ⟨by kernel_rfl, fun j t ht => by
        rw [Tryz.params5] at ht
        simp at ht⟩)
    (by kernel_rfl)
#print axioms houseTaken_card
end Go.Proofs.YtkmlhhiialbfgaaGreatDoor
