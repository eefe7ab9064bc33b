/- The law CallArgs of the given program, for every input: its row and its tied card. -/
import Derived.Test.YtkmlhhiialbfgaaGreatDoorRowCallArgs
import Derived.Test.YtkmlhhiialbfgaaGreatDoorFactCallArgs
import Derived.Test.YtkmlhhiialbfgaaGreatDoorTie
import Derived.Test.YtkmlhhiialbfgaaGreatDoorCards
import Derived.SevenTiedAt
set_option linter.unusedVariables false
set_option linter.unusedSimpArgs false
namespace Go.Proofs.YtkmlhhiialbfgaaGreatDoor.callArgs
open Go.ChangeShapes Go.WideShapes Go.ChangeAt Go.RowKit
theorem facts : joinedFacts Tryz.prog 4 Tryz.f4 Rows.callArgsSpec Rows.callArgsRow = true := by
  simp only [joinedFacts, fact_laidOut, fact_rowed, fact_heard, fact_enter, fact0, fact1, fact2, fact3, fact4, fact5, fact6, Bool.and_true, Bool.true_and]
  kernel_rfl
theorem over : Rows.callArgsRow.holds Tryz.pinned (OpenSpec.ofChange Rows.callArgsSpec) :=
  OpenClaim.holds_of_wide 4 Tryz.f4 rfl rfl rfl rfl rfl rfl rfl ⟨rfl, rfl, rfl, rfl, rfl⟩ rfl rfl rfl rfl rfl (by kernel_rfl) Tryz.func4 facts
    (of_decide_eq_true (by kernel_rfl)) (by unfold Func.isWrapper; first | (rw [if_pos (by decide +kernel)]; kernel_rfl) | (rw [if_neg (by decide +kernel)]; exact ⟨rfl, rfl⟩))
    (fun os started H enc _ => lifted os started H enc)
theorem proved : Rows.CallArgsSaid := over
#print axioms proved
end Go.Proofs.YtkmlhhiialbfgaaGreatDoor.callArgs
namespace Go.Proofs.YtkmlhhiialbfgaaGreatDoor
/-- The tied card. -/
theorem callArgs_card : Rows.CallArgsCardSaid :=
  Claim7.holds_tied_plain_at .later [] [.data, .data] true (true, "c6d2b9488acac07dfeddec2354b33e2206690df0de4901fc5f66fb52fb4ff9e9") false
    callArgs.proved (fun _ h => by cases h) (by kernel_rfl) (fun _ h => by cases h) callArgs_row_tie rfl ⟨rfl, rfl⟩ (by kernel_rfl) rfl
    (fun f fn hf hfn => by
      obtain rfl : f = 4 := Option.some.inj ((show Tryz.prog.funcNamed "cloakroom/cloakroomlaw21.CallArgs" = some 4 by kernel_rfl).symm.trans hf) |>.symm
      obtain rfl : fn = Tryz.f4 := (Option.some.inj (Tryz.func4.symm.trans hfn)).symm
      exact ⟨by kernel_rfl, fun j t ht => by
        rw [Tryz.params4] at ht
        have hm : t ∈ [5, 26] := by simpa using Array.mem_of_getElem? ht
        have hall : ([5, 26].all fun u => !Tryz.prog.wantsStandIn u) = true := by kernel_rfl
        exact (show Tryz.prog.wantsStandIn t = false by simpa using List.all_eq_true.1 hall t hm)⟩)
    (by kernel_rfl)
#print axioms callArgs_card
end Go.Proofs.YtkmlhhiialbfgaaGreatDoor
