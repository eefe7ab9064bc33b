/- The law CallNone of the given program, for every input: its row and its tied card. -/
import Derived.Test.YtkmlhhiialbfgaaGreatDoorRowCallNone
import Derived.Test.YtkmlhhiialbfgaaGreatDoorFactCallNone
import Derived.Test.YtkmlhhiialbfgaaGreatDoorTie
import Derived.Test.YtkmlhhiialbfgaaGreatDoorCards
import Derived.SevenTiedAt
set_option linter.unusedVariables false
set_option linter.unusedSimpArgs false
namespace Go.Proofs.YtkmlhhiialbfgaaGreatDoor.callNone
open Go.ChangeShapes Go.WideShapes Go.ChangeAt Go.RowKit
theorem facts : joinedFacts Tryz.prog 3 Tryz.f3 Rows.callNoneSpec Rows.callNoneRow = true := by
  simp only [joinedFacts, fact_laidOut, fact_rowed, fact_heard, fact_enter, fact0, fact1, fact2, fact3, fact4, fact5, fact6, Bool.and_true, Bool.true_and]
  kernel_rfl
theorem over : Rows.callNoneRow.holds Tryz.pinned (OpenSpec.ofChange Rows.callNoneSpec) :=
  OpenClaim.holds_of_wide 3 Tryz.f3 rfl rfl rfl rfl rfl rfl rfl ⟨rfl, rfl, rfl, rfl, rfl⟩ rfl rfl rfl rfl rfl (by kernel_rfl) Tryz.func3 facts
    (of_decide_eq_true (by kernel_rfl)) (by unfold Func.isWrapper; first | (rw [if_pos (by decide +kernel)]; kernel_rfl) | (rw [if_neg (by decide +kernel)]; exact ⟨rfl, rfl⟩))
    (fun os started H enc _ => lifted os started H enc)
theorem proved : Rows.CallNoneSaid := over
#print axioms proved
end Go.Proofs.YtkmlhhiialbfgaaGreatDoor.callNone
namespace Go.Proofs.YtkmlhhiialbfgaaGreatDoor
/-- The tied card. -/
theorem callNone_card : Rows.CallNoneCardSaid :=
  Claim7.holds_tied_plain_at .later [] [.data, .data] true (true, "c6d2b9488acac07dfeddec2354b33e2206690df0de4901fc5f66fb52fb4ff9e9") false
    callNone.proved (fun _ h => by cases h) (by kernel_rfl) (fun _ h => by cases h) callNone_row_tie rfl ⟨rfl, rfl⟩ (by kernel_rfl) rfl
    (fun f fn hf hfn => by
      obtain rfl : f = 3 := Option.some.inj ((show Tryz.prog.funcNamed "cloakroom/cloakroomlaw21.CallNone" = some 3 by kernel_rfl).symm.trans hf) |>.symm
      obtain rfl : fn = Tryz.f3 := (Option.some.inj (Tryz.func3.symm.trans hfn)).symm
      exact ⟨by kernel_rfl, fun j t ht => by
        rw [Tryz.params3] at ht
        simp at ht⟩)
    (by kernel_rfl)
#print axioms callNone_card
end Go.Proofs.YtkmlhhiialbfgaaGreatDoor
