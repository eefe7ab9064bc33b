/- The law SliceNone of the given program, for every input: its row and its tied card. -/
import Derived.Test.YtgfnepigepnapaaGreatDoorRowSliceNone
import Derived.Test.YtgfnepigepnapaaGreatDoorFactSliceNone
import Derived.Test.YtgfnepigepnapaaGreatDoorTie
import Derived.Test.YtgfnepigepnapaaGreatDoorCards
import Derived.SevenTiedAt
set_option linter.unusedVariables false
set_option linter.unusedSimpArgs false
namespace Go.Proofs.YtgfnepigepnapaaGreatDoor.sliceNone
open Go.ChangeShapes Go.WideShapes Go.ChangeAt Go.RowKit
theorem facts : joinedFacts Tryz.prog 4 Tryz.f4 Rows.sliceNoneSpec Rows.sliceNoneRow = true := by
  simp only [joinedFacts, fact_laidOut, fact_rowed, fact_heard, fact_enter, fact0, fact1, fact2, fact3, fact4, fact5, fact6, Bool.and_true, Bool.true_and]
  kernel_rfl
theorem over : Rows.sliceNoneRow.holds Tryz.pinned (OpenSpec.ofChange Rows.sliceNoneSpec) :=
  OpenClaim.holds_of_wide 4 Tryz.f4 rfl rfl rfl rfl rfl rfl rfl ⟨rfl, rfl, rfl, rfl, rfl⟩ rfl rfl rfl rfl rfl (by kernel_rfl) Tryz.func4 facts
    (of_decide_eq_true (by kernel_rfl)) (by unfold Func.isWrapper; first | (rw [if_pos (by decide +kernel)]; kernel_rfl) | (rw [if_neg (by decide +kernel)]; exact ⟨rfl, rfl⟩))
    (fun os started H enc _ => lifted os started H enc)
theorem proved : Rows.SliceNoneSaid := over
#print axioms proved
end Go.Proofs.YtgfnepigepnapaaGreatDoor.sliceNone
namespace Go.Proofs.YtgfnepigepnapaaGreatDoor
/-- The tied card. -/
theorem sliceNone_card : Rows.SliceNoneCardSaid :=
  Claim7.holds_tied_plain_at .later [] [.data, .data] true (true, "be57e52af63af323c079f7784f086887aea8f4438c5b9c0aacfe6d073f22187d") false
    sliceNone.proved (fun _ h => by cases h) (by kernel_rfl) (fun _ h => by cases h) sliceNone_row_tie rfl ⟨rfl, rfl⟩ (by kernel_rfl) rfl
    (fun f fn hf hfn => by
      obtain rfl : f = 4 := Option.some.inj ((show Tryz.prog.funcNamed "cloakroom/cloakroomlaw19.SliceNone" = some 4 by kernel_rfl).symm.trans hf) |>.symm
      obtain rfl : fn = Tryz.f4 := (Option.some.inj (Tryz.func4.symm.trans hfn)).symm
      exact ⟨by kernel_rfl, fun j t ht => by
        rw [Tryz.params4] at ht
        have hm : t ∈ [3, 5] := by simpa using Array.mem_of_getElem? ht
        have hall : ([3, 5].all fun u => !Tryz.prog.wantsStandIn u) = true := by kernel_rfl
        exact (show Tryz.prog.wantsStandIn t = false by simpa using List.all_eq_true.1 hall t hm)⟩)
    (by kernel_rfl)
#print axioms sliceNone_card
end Go.Proofs.YtgfnepigepnapaaGreatDoor
