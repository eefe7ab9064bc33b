/- The law HouseCopy of the given program, for every input: its row and its tied card. -/
import Derived.Test.YtlaeoahhfalkiaaGreatDoorRowHouseCopy
import Derived.Test.YtlaeoahhfalkiaaGreatDoorFactHouseCopy
import Derived.Test.YtlaeoahhfalkiaaGreatDoorTie
import Derived.Test.YtlaeoahhfalkiaaGreatDoorCards
import Derived.SevenTiedAt
set_option linter.unusedVariables false
set_option linter.unusedSimpArgs false
namespace Go.Proofs.YtlaeoahhfalkiaaGreatDoor.houseCopy
open Go.ChangeShapes Go.WideShapes Go.ChangeAt Go.RowKit
theorem facts : joinedFacts Tryz.prog 5 Tryz.f5 Rows.houseCopySpec Rows.houseCopyRow = true := by
  simp only [joinedFacts, fact_laidOut, fact_rowed, fact_heard, fact_enter, fact0, fact1, fact2, fact3, fact4, fact5, fact6, Bool.and_true, Bool.true_and]
  kernel_rfl
theorem over : Rows.houseCopyRow.holds Tryz.pinned (OpenSpec.ofChange Rows.houseCopySpec) :=
  OpenClaim.holds_of_wide 5 Tryz.f5 rfl rfl rfl rfl rfl rfl rfl ⟨rfl, rfl, rfl, rfl, rfl⟩ rfl rfl rfl rfl rfl (by kernel_rfl) Tryz.func5 facts
    (of_decide_eq_true (by kernel_rfl)) (by unfold Func.isWrapper; first | (rw [if_pos (by decide +kernel)]; kernel_rfl) | (rw [if_neg (by decide +kernel)]; exact ⟨rfl, rfl⟩))
    (fun os started H enc _ => lifted os started H enc)
theorem proved : Rows.HouseCopySaid := over
#print axioms proved
end Go.Proofs.YtlaeoahhfalkiaaGreatDoor.houseCopy
namespace Go.Proofs.YtlaeoahhfalkiaaGreatDoor
/-- The tied card. -/
theorem houseCopy_card : Rows.HouseCopyCardSaid :=
  Claim7.holds_tied_plain_at .later [] [.data, .data] true (true, "6575e27bc65bffb2835efbcc9520353dcc8f323a8ee0b75842d56dc8f0ec1e10") false
    houseCopy.proved (fun _ h => by cases h) (by kernel_rfl) (fun _ h => by cases h) houseCopy_row_tie rfl ⟨rfl, rfl⟩ (by kernel_rfl) rfl
    (fun f fn hf hfn => by
      obtain rfl : f = 5 := Option.some.inj ((show Tryz.prog.funcNamed "cloakroom/cloakroomlaw27.HouseCopy" = some 5 by kernel_rfl).symm.trans hf) |>.symm
      obtain rfl : fn = Tryz.f5 := (Option.some.inj (Tryz.func5.symm.trans hfn)).symm
      exact ⟨by kernel_rfl, fun j t ht => by
        rw [Tryz.params5] at ht
        have hm : t ∈ [53] := by simpa using Array.mem_of_getElem? ht
        have hall : ([53].all fun u => !Tryz.prog.wantsStandIn u) = true := by kernel_rfl
        exact (show Tryz.prog.wantsStandIn t = false by simpa using List.all_eq_true.1 hall t hm)⟩)
    (by kernel_rfl)
#print axioms houseCopy_card
end Go.Proofs.YtlaeoahhfalkiaaGreatDoor
