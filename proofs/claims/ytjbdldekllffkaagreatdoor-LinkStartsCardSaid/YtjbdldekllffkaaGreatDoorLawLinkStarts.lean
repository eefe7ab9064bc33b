/- The law LinkStarts of the given program, for every input: its row and its tied card. -/
import Derived.Test.YtjbdldekllffkaaGreatDoorRowLinkStarts
import Derived.Test.YtjbdldekllffkaaGreatDoorFactLinkStarts
import Derived.Test.YtjbdldekllffkaaGreatDoorTie
import Derived.Test.YtjbdldekllffkaaGreatDoorCards
import Derived.SevenTiedAt
set_option linter.unusedVariables false
set_option linter.unusedSimpArgs false
namespace Go.Proofs.YtjbdldekllffkaaGreatDoor.linkStarts
open Go.ChangeShapes Go.WideShapes Go.ChangeAt Go.RowKit
theorem facts : joinedFacts Tryz.prog 13 Tryz.f13 Rows.linkStartsSpec Rows.linkStartsRow = true := by
  simp only [joinedFacts, fact_laidOut, fact_rowed, fact_heard, fact_enter, fact0, fact1, fact2, fact3, fact4, fact5, fact6, Bool.and_true, Bool.true_and]
  kernel_rfl
theorem over : Rows.linkStartsRow.holds Tryz.pinned (OpenSpec.ofChange Rows.linkStartsSpec) :=
  OpenClaim.holds_of_wide 13 Tryz.f13 rfl rfl rfl rfl rfl rfl rfl ⟨rfl, rfl, rfl, rfl, rfl⟩ rfl rfl rfl rfl rfl (by kernel_rfl) Tryz.func13 facts
    (of_decide_eq_true (by kernel_rfl)) (by unfold Func.isWrapper; first | (rw [if_pos (by decide +kernel)]; kernel_rfl) | (rw [if_neg (by decide +kernel)]; exact ⟨rfl, rfl⟩))
    (fun os started H enc _ => lifted os started H enc)
theorem proved : Rows.LinkStartsSaid := over
#print axioms proved
end Go.Proofs.YtjbdldekllffkaaGreatDoor.linkStarts
namespace Go.Proofs.YtjbdldekllffkaaGreatDoor
/-- The tied card. -/
theorem linkStarts_card : Rows.LinkStartsCardSaid :=
  Claim7.holds_tied_plain_at .later [] [.data, .data] true (true, "d494232871cede08bd5a91dfdee89733053bcc39fa774dff1167f7df83a32693") false
    linkStarts.proved (fun _ h => by cases h) (by kernel_rfl) (fun _ h => by cases h) linkStarts_row_tie rfl ⟨rfl, rfl⟩ (by kernel_rfl) rfl
    (fun f fn hf hfn => by
      obtain rfl : f = 13 := Option.some.inj ((show Tryz.prog.funcNamed "cloakroom/cloakroomlaw20.LinkStarts" = some 13 by kernel_rfl).symm.trans hf) |>.symm
      obtain rfl : fn = Tryz.f13 := (Option.some.inj (Tryz.func13.symm.trans hfn)).symm
      exact ⟨by kernel_rfl, fun j t ht => by
        rw [Tryz.params13] at ht
        have hm : t ∈ [5, 5] := by simpa using Array.mem_of_getElem? ht
        have hall : ([5, 5].all fun u => !Tryz.prog.wantsStandIn u) = true := by kernel_rfl
        exact (show Tryz.prog.wantsStandIn t = false by simpa using List.all_eq_true.1 hall t hm)⟩)
    (by kernel_rfl)
#print axioms linkStarts_card
end Go.Proofs.YtjbdldekllffkaaGreatDoor
