/- The law NumLow of the given program, for every input: its row and its tied card. -/
import Derived.Test.YtpbnbgjclalpeaaDoorRowNumLow
import Derived.Test.YtpbnbgjclalpeaaDoorFactNumLow
import Derived.Test.YtpbnbgjclalpeaaDoorTie
import Derived.Test.YtpbnbgjclalpeaaDoorCards
import Derived.SevenTiedAt
set_option linter.unusedVariables false
set_option linter.unusedSimpArgs false
namespace Go.Proofs.YtpbnbgjclalpeaaDoor.numLow
open Go.ChangeShapes Go.WideShapes Go.ChangeAt Go.RowKit
theorem facts : joinedFacts Tryd.prog 11 Tryd.f11 Rows.numLowSpec Rows.numLowRow = true := by
  simp only [joinedFacts, fact_laidOut, fact_rowed, fact_heard, fact_enter, fact0, fact1, fact2, fact3, fact4, fact5, fact6, Bool.and_true, Bool.true_and]
  kernel_rfl
theorem over : Rows.numLowRow.holds Tryd.pinned (OpenSpec.ofChange Rows.numLowSpec) :=
  OpenClaim.holds_of_wide 11 Tryd.f11 rfl rfl rfl rfl rfl rfl rfl ⟨rfl, rfl, rfl, rfl, rfl⟩ rfl rfl rfl rfl rfl (by kernel_rfl) Tryd.func11 facts
    (of_decide_eq_true (by kernel_rfl)) (by unfold Func.isWrapper; first | (rw [if_pos (by decide +kernel)]; kernel_rfl) | (rw [if_neg (by decide +kernel)]; exact ⟨rfl, rfl⟩))
    (fun os started H enc _ => lifted os started H enc)
theorem proved : Rows.NumLowSaid := over
#print axioms proved
end Go.Proofs.YtpbnbgjclalpeaaDoor.numLow
namespace Go.Proofs.YtpbnbgjclalpeaaDoor
/-- The tied card. -/
theorem numLow_card : Rows.NumLowCardSaid :=
  Claim7.holds_tied_plain_at .later [] [.data, .data] true (true, "7e26454c4317a6915da812efdc9ef30a56d4813bb2aecff2e5ed57d001e1fd7a") false
    numLow.proved (fun _ h => by cases h) (by kernel_rfl) (fun _ h => by cases h) numLow_row_tie rfl ⟨rfl, rfl⟩ (by kernel_rfl) rfl
    (fun f fn hf hfn => by
      obtain rfl : f = 11 := Option.some.inj ((show Tryd.prog.funcNamed "cloakroom/cloakroomlaw13.NumLow" = some 11 by kernel_rfl).symm.trans hf) |>.symm
      obtain rfl : fn = Tryd.f11 := (Option.some.inj (Tryd.func11.symm.trans hfn)).symm
      exact ⟨by kernel_rfl, fun j t ht => by
        rw [Tryd.params11] at ht
        have hm : t ∈ [5, 22, 22, 22] := by simpa using Array.mem_of_getElem? ht
        have hall : ([5, 22, 22, 22].all fun u => !Tryd.prog.wantsStandIn u) = true := by kernel_rfl
        exact (show Tryd.prog.wantsStandIn t = false by simpa using List.all_eq_true.1 hall t hm)⟩)
    (by kernel_rfl)
#print axioms numLow_card
end Go.Proofs.YtpbnbgjclalpeaaDoor
