/- The law StepRoom of the given program, for every input: its row and its tied card. -/
import Derived.Test.YtmnebeikafigjaaGreatDoorRowStepRoom
import Derived.Test.YtmnebeikafigjaaGreatDoorFactStepRoom
import Derived.Test.YtmnebeikafigjaaGreatDoorTie
import Derived.Test.YtmnebeikafigjaaGreatDoorCards
import Derived.SevenTiedAt
set_option linter.unusedVariables false
set_option linter.unusedSimpArgs false
namespace Go.Proofs.YtmnebeikafigjaaGreatDoor.stepRoom
open Go.ChangeShapes Go.WideShapes Go.ChangeAt Go.RowKit
theorem facts : joinedFacts Tryz.prog 3 Tryz.f3 Rows.stepRoomSpec Rows.stepRoomRow = true := by
  simp only [joinedFacts, fact_laidOut, fact_rowed, fact_heard, fact_enter, fact0, fact1, fact2, fact3, fact4, fact5, fact6, Bool.and_true, Bool.true_and]
  kernel_rfl
theorem over : Rows.stepRoomRow.holds Tryz.pinned (OpenSpec.ofChange Rows.stepRoomSpec) :=
  OpenClaim.holds_of_wide 3 Tryz.f3 rfl rfl rfl rfl rfl rfl rfl ⟨rfl, rfl, rfl, rfl, rfl⟩ rfl rfl rfl rfl rfl (by kernel_rfl) Tryz.func3 facts
    (of_decide_eq_true (by kernel_rfl)) (by unfold Func.isWrapper; first | (rw [if_pos (by decide +kernel)]; kernel_rfl) | (rw [if_neg (by decide +kernel)]; exact ⟨rfl, rfl⟩))
    (fun os started H enc _ => lifted os started H enc)
theorem proved : Rows.StepRoomSaid := over
#print axioms proved
end Go.Proofs.YtmnebeikafigjaaGreatDoor.stepRoom
namespace Go.Proofs.YtmnebeikafigjaaGreatDoor
/-- The tied card. -/
theorem stepRoom_card : Rows.StepRoomCardSaid :=
  Claim7.holds_tied_plain_at .later [] [.data, .data] true (true, "053854b3e2b57d87dae218583546e4f81c049450013affaca69751f83a262b40") false
    stepRoom.proved (fun _ h => by cases h) (by kernel_rfl) (fun _ h => by cases h) stepRoom_row_tie rfl ⟨rfl, rfl⟩ (by kernel_rfl) rfl
    (fun f fn hf hfn => by
      obtain rfl : f = 3 := Option.some.inj ((show Tryz.prog.funcNamed "cloakroom/cloakroomlaw18.StepRoom" = some 3 by kernel_rfl).symm.trans hf) |>.symm
      obtain rfl : fn = Tryz.f3 := (Option.some.inj (Tryz.func3.symm.trans hfn)).symm
      exact ⟨by kernel_rfl, fun j t ht => by
        rw [Tryz.params3] at ht
        have hm : t ∈ [22] := by simpa using Array.mem_of_getElem? ht
        have hall : ([22].all fun u => !Tryz.prog.wantsStandIn u) = true := by kernel_rfl
        exact (show Tryz.prog.wantsStandIn t = false by simpa using List.all_eq_true.1 hall t hm)⟩)
    (by kernel_rfl)
#print axioms stepRoom_card
end Go.Proofs.YtmnebeikafigjaaGreatDoor
