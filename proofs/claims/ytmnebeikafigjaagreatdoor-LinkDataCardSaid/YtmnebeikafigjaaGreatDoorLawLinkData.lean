/- The law LinkData of the given program, for every input: its row and its tied card. -/
import Derived.Test.YtmnebeikafigjaaGreatDoorRowLinkData
import Derived.Test.YtmnebeikafigjaaGreatDoorFactLinkData
import Derived.Test.YtmnebeikafigjaaGreatDoorTie
import Derived.Test.YtmnebeikafigjaaGreatDoorCards
import Derived.SevenTiedAt
set_option linter.unusedVariables false
set_option linter.unusedSimpArgs false
namespace Go.Proofs.YtmnebeikafigjaaGreatDoor.linkData
open Go.ChangeShapes Go.WideShapes Go.ChangeAt Go.RowKit
theorem facts : joinedFacts Tryz.prog 7 Tryz.f7 Rows.linkDataSpec Rows.linkDataRow = true := by
  simp only [joinedFacts, fact_laidOut, fact_rowed, fact_heard, fact_enter, fact0, fact1, fact2, fact3, fact4, fact5, fact6, Bool.and_true, Bool.true_and]
  kernel_rfl
theorem over : Rows.linkDataRow.holds Tryz.pinned (OpenSpec.ofChange Rows.linkDataSpec) :=
  OpenClaim.holds_of_wide 7 Tryz.f7 rfl rfl rfl rfl rfl rfl rfl ⟨rfl, rfl, rfl, rfl, rfl⟩ rfl rfl rfl rfl rfl (by kernel_rfl) Tryz.func7 facts
    (of_decide_eq_true (by kernel_rfl)) (by unfold Func.isWrapper; first | (rw [if_pos (by decide +kernel)]; kernel_rfl) | (rw [if_neg (by decide +kernel)]; exact ⟨rfl, rfl⟩))
    (fun os started H enc _ => lifted os started H enc)
theorem proved : Rows.LinkDataSaid := over
#print axioms proved
end Go.Proofs.YtmnebeikafigjaaGreatDoor.linkData
namespace Go.Proofs.YtmnebeikafigjaaGreatDoor
/-- The tied card. -/
theorem linkData_card : Rows.LinkDataCardSaid :=
  Claim7.holds_tied_plain_at .later [] [.data, .data] true (true, "053854b3e2b57d87dae218583546e4f81c049450013affaca69751f83a262b40") false
    linkData.proved (fun _ h => by cases h) (by kernel_rfl) (fun _ h => by cases h) linkData_row_tie rfl ⟨rfl, rfl⟩ (by kernel_rfl) rfl
    (fun f fn hf hfn => by
      obtain rfl : f = 7 := Option.some.inj ((show Tryz.prog.funcNamed "cloakroom/cloakroomlaw20.LinkData" = some 7 by kernel_rfl).symm.trans hf) |>.symm
      obtain rfl : fn = Tryz.f7 := (Option.some.inj (Tryz.func7.symm.trans hfn)).symm
      exact ⟨by kernel_rfl, fun j t ht => by
        rw [Tryz.params7] at ht
        have hm : t ∈ [34, 22, 5] := by simpa using Array.mem_of_getElem? ht
        have hall : ([34, 22, 5].all fun u => !Tryz.prog.wantsStandIn u) = true := by kernel_rfl
        exact (show Tryz.prog.wantsStandIn t = false by simpa using List.all_eq_true.1 hall t hm)⟩)
    (by kernel_rfl)
#print axioms linkData_card
end Go.Proofs.YtmnebeikafigjaaGreatDoor
