/-
  DERIVED. GIVEN WITH THE SEED: THE CARDS: each row of YtjbdldekllffkaaGreatDoorRows.lean that lists a variable, with what it lists TIED to the program's text (the seventh form; the later family's looks); each row that meets fmt, with fmt's text TOLD by the authors' own Lean function (tested against real Go, not proved from fmt's source: count such statements apart). THE CARD IS WHAT COUNTS. Prove the row's statement (the work); the ties are given (YtjbdldekllffkaaGreatDoorTie.lean); close each card by the builder's one call (the guide's Derived/Test/ToyasCard.lean, 'card_holds'). Laid BY PROGRAM, IN A SANDBOX (cutbox-door.mjs). By AI agents, Wed Nov 11 2026. No macro, syntax, notation, axiom, sorry.
-/
import Derived.Test.YtjbdldekllffkaaGreatDoorRows
import GoSem.ClaimSeven
namespace Go.Proofs.YtjbdldekllffkaaGreatDoor
namespace Rows

/-- THE TIED CARD OF 'cloakroomlaw18.StepAll'. -/
def stepAllCard : Claim7 := { stood := { row := stepAllRow, standIns := [], harness := (true, "d494232871cede08bd5a91dfdee89733053bcc39fa774dff1167f7df83a32693"), looks := false }, kinds := [], alts := [], laidByText := true, laidKinds := [.data, .data], laidTests := true, laidLooks := .later }
def StepAllCardSaid : Prop := Claim7.holds Tryz.pinned (.plain (OpenSpec.ofChange stepAllSpec)) stepAllCard

/-- THE TIED CARD OF 'cloakroomlaw18.StepRoom'. -/
def stepRoomCard : Claim7 := { stood := { row := stepRoomRow, standIns := [], harness := (true, "d494232871cede08bd5a91dfdee89733053bcc39fa774dff1167f7df83a32693"), looks := false }, kinds := [], alts := [], laidByText := true, laidKinds := [.data, .data], laidTests := true, laidLooks := .later }
def StepRoomCardSaid : Prop := Claim7.holds Tryz.pinned (.plain (OpenSpec.ofChange stepRoomSpec)) stepRoomCard

/-- THE TIED CARD OF 'cloakroomlaw18.StepInits'. -/
def stepInitsCard : Claim7 := { stood := { row := stepInitsRow, standIns := [], harness := (true, "d494232871cede08bd5a91dfdee89733053bcc39fa774dff1167f7df83a32693"), looks := false }, kinds := [], alts := [], laidByText := true, laidKinds := [.data, .data], laidTests := true, laidLooks := .later }
def StepInitsCardSaid : Prop := Claim7.holds Tryz.pinned (.plain (OpenSpec.ofChange stepInitsSpec)) stepInitsCard

/-- THE TIED CARD OF 'cloakroomlaw19.SliceCuts'. -/
def sliceCutsCard : Claim7 := { stood := { row := sliceCutsRow, standIns := [], harness := (true, "d494232871cede08bd5a91dfdee89733053bcc39fa774dff1167f7df83a32693"), looks := false }, kinds := [], alts := [], laidByText := true, laidKinds := [.data, .data], laidTests := true, laidLooks := .later }
def SliceCutsCardSaid : Prop := Claim7.holds Tryz.pinned (.plain (OpenSpec.ofChange sliceCutsSpec)) sliceCutsCard

/-- THE TIED CARD OF 'cloakroomlaw19.SliceOnes'. -/
def sliceOnesCard : Claim7 := { stood := { row := sliceOnesRow, standIns := [], harness := (true, "d494232871cede08bd5a91dfdee89733053bcc39fa774dff1167f7df83a32693"), looks := false }, kinds := [], alts := [], laidByText := true, laidKinds := [.data, .data], laidTests := true, laidLooks := .later }
def SliceOnesCardSaid : Prop := Claim7.holds Tryz.pinned (.plain (OpenSpec.ofChange sliceOnesSpec)) sliceOnesCard

/-- THE TIED CARD OF 'cloakroomlaw19.SliceAll'. -/
def sliceAllCard : Claim7 := { stood := { row := sliceAllRow, standIns := [], harness := (true, "d494232871cede08bd5a91dfdee89733053bcc39fa774dff1167f7df83a32693"), looks := false }, kinds := [], alts := [], laidByText := true, laidKinds := [.data, .data], laidTests := true, laidLooks := .later }
def SliceAllCardSaid : Prop := Claim7.holds Tryz.pinned (.plain (OpenSpec.ofChange sliceAllSpec)) sliceAllCard

/-- THE TIED CARD OF 'cloakroomlaw21.CallAll'. -/
def callAllCard : Claim7 := { stood := { row := callAllRow, standIns := [], harness := (true, "d494232871cede08bd5a91dfdee89733053bcc39fa774dff1167f7df83a32693"), looks := false }, kinds := [], alts := [], laidByText := true, laidKinds := [.data, .data], laidTests := true, laidLooks := .later }
def CallAllCardSaid : Prop := Claim7.holds Tryz.pinned (.plain (OpenSpec.ofChange callAllSpec)) callAllCard

/-- THE TIED CARD OF 'cloakroomlaw21.CallCuts'. -/
def callCutsCard : Claim7 := { stood := { row := callCutsRow, standIns := [], harness := (true, "d494232871cede08bd5a91dfdee89733053bcc39fa774dff1167f7df83a32693"), looks := false }, kinds := [], alts := [], laidByText := true, laidKinds := [.data, .data], laidTests := true, laidLooks := .later }
def CallCutsCardSaid : Prop := Claim7.holds Tryz.pinned (.plain (OpenSpec.ofChange callCutsSpec)) callCutsCard

/-- THE TIED CARD OF 'cloakroomlaw21.CallEnds'. -/
def callEndsCard : Claim7 := { stood := { row := callEndsRow, standIns := [], harness := (true, "d494232871cede08bd5a91dfdee89733053bcc39fa774dff1167f7df83a32693"), looks := false }, kinds := [], alts := [], laidByText := true, laidKinds := [.data, .data], laidTests := true, laidLooks := .later }
def CallEndsCardSaid : Prop := Claim7.holds Tryz.pinned (.plain (OpenSpec.ofChange callEndsSpec)) callEndsCard

/-- THE TIED CARD OF 'cloakroomlaw20.LinkSegs'. -/
def linkSegsCard : Claim7 := { stood := { row := linkSegsRow, standIns := [], harness := (true, "d494232871cede08bd5a91dfdee89733053bcc39fa774dff1167f7df83a32693"), looks := false }, kinds := [], alts := [], laidByText := true, laidKinds := [.data, .data], laidTests := true, laidLooks := .later }
def LinkSegsCardSaid : Prop := Claim7.holds Tryz.pinned (.plain (OpenSpec.ofChange linkSegsSpec)) linkSegsCard

/-- THE TIED CARD OF 'cloakroomlaw20.LinkStarts'. -/
def linkStartsCard : Claim7 := { stood := { row := linkStartsRow, standIns := [], harness := (true, "d494232871cede08bd5a91dfdee89733053bcc39fa774dff1167f7df83a32693"), looks := false }, kinds := [], alts := [], laidByText := true, laidKinds := [.data, .data], laidTests := true, laidLooks := .later }
def LinkStartsCardSaid : Prop := Claim7.holds Tryz.pinned (.plain (OpenSpec.ofChange linkStartsSpec)) linkStartsCard

/-- THE TIED CARD OF 'cloakroomlaw20.LinkData'. -/
def linkDataCard : Claim7 := { stood := { row := linkDataRow, standIns := [], harness := (true, "d494232871cede08bd5a91dfdee89733053bcc39fa774dff1167f7df83a32693"), looks := false }, kinds := [], alts := [], laidByText := true, laidKinds := [.data, .data], laidTests := true, laidLooks := .later }
def LinkDataCardSaid : Prop := Claim7.holds Tryz.pinned (.plain (OpenSpec.ofChange linkDataSpec)) linkDataCard

/-- THE SECOND FORM's CARD OF 'cloakroomlaw18.StepAll'. -/
def stepAllUptoCard : Claim7 := { stood := { row := stepAllUptoRow, standIns := [], harness := (true, "d494232871cede08bd5a91dfdee89733053bcc39fa774dff1167f7df83a32693"), looks := false }, kinds := [], alts := [], laidByText := true, laidKinds := [.data, .data], laidTests := true, laidLooks := .later }
def StepAllUptoCardSaid : Prop := Claim7.holds Tryz.pinned (.plain (OpenSpec.upto stepAllSpec)) stepAllUptoCard

/-- THE SECOND FORM's CARD OF 'cloakroomlaw18.StepRoom'. -/
def stepRoomUptoCard : Claim7 := { stood := { row := stepRoomUptoRow, standIns := [], harness := (true, "d494232871cede08bd5a91dfdee89733053bcc39fa774dff1167f7df83a32693"), looks := false }, kinds := [], alts := [], laidByText := true, laidKinds := [.data, .data], laidTests := true, laidLooks := .later }
def StepRoomUptoCardSaid : Prop := Claim7.holds Tryz.pinned (.plain (OpenSpec.upto stepRoomSpec)) stepRoomUptoCard

/-- THE SECOND FORM's CARD OF 'cloakroomlaw18.StepInits'. -/
def stepInitsUptoCard : Claim7 := { stood := { row := stepInitsUptoRow, standIns := [], harness := (true, "d494232871cede08bd5a91dfdee89733053bcc39fa774dff1167f7df83a32693"), looks := false }, kinds := [], alts := [], laidByText := true, laidKinds := [.data, .data], laidTests := true, laidLooks := .later }
def StepInitsUptoCardSaid : Prop := Claim7.holds Tryz.pinned (.plain (OpenSpec.upto stepInitsSpec)) stepInitsUptoCard

/-- THE SECOND FORM's CARD OF 'cloakroomlaw19.SliceCuts'. -/
def sliceCutsUptoCard : Claim7 := { stood := { row := sliceCutsUptoRow, standIns := [], harness := (true, "d494232871cede08bd5a91dfdee89733053bcc39fa774dff1167f7df83a32693"), looks := false }, kinds := [], alts := [], laidByText := true, laidKinds := [.data, .data], laidTests := true, laidLooks := .later }
def SliceCutsUptoCardSaid : Prop := Claim7.holds Tryz.pinned (.plain (OpenSpec.upto sliceCutsSpec)) sliceCutsUptoCard

/-- THE SECOND FORM's CARD OF 'cloakroomlaw19.SliceOnes'. -/
def sliceOnesUptoCard : Claim7 := { stood := { row := sliceOnesUptoRow, standIns := [], harness := (true, "d494232871cede08bd5a91dfdee89733053bcc39fa774dff1167f7df83a32693"), looks := false }, kinds := [], alts := [], laidByText := true, laidKinds := [.data, .data], laidTests := true, laidLooks := .later }
def SliceOnesUptoCardSaid : Prop := Claim7.holds Tryz.pinned (.plain (OpenSpec.upto sliceOnesSpec)) sliceOnesUptoCard

/-- THE SECOND FORM's CARD OF 'cloakroomlaw19.SliceAll'. -/
def sliceAllUptoCard : Claim7 := { stood := { row := sliceAllUptoRow, standIns := [], harness := (true, "d494232871cede08bd5a91dfdee89733053bcc39fa774dff1167f7df83a32693"), looks := false }, kinds := [], alts := [], laidByText := true, laidKinds := [.data, .data], laidTests := true, laidLooks := .later }
def SliceAllUptoCardSaid : Prop := Claim7.holds Tryz.pinned (.plain (OpenSpec.upto sliceAllSpec)) sliceAllUptoCard

/-- THE SECOND FORM's CARD OF 'cloakroomlaw21.CallAll'. -/
def callAllUptoCard : Claim7 := { stood := { row := callAllUptoRow, standIns := [], harness := (true, "d494232871cede08bd5a91dfdee89733053bcc39fa774dff1167f7df83a32693"), looks := false }, kinds := [], alts := [], laidByText := true, laidKinds := [.data, .data], laidTests := true, laidLooks := .later }
def CallAllUptoCardSaid : Prop := Claim7.holds Tryz.pinned (.plain (OpenSpec.upto callAllSpec)) callAllUptoCard

/-- THE SECOND FORM's CARD OF 'cloakroomlaw21.CallCuts'. -/
def callCutsUptoCard : Claim7 := { stood := { row := callCutsUptoRow, standIns := [], harness := (true, "d494232871cede08bd5a91dfdee89733053bcc39fa774dff1167f7df83a32693"), looks := false }, kinds := [], alts := [], laidByText := true, laidKinds := [.data, .data], laidTests := true, laidLooks := .later }
def CallCutsUptoCardSaid : Prop := Claim7.holds Tryz.pinned (.plain (OpenSpec.upto callCutsSpec)) callCutsUptoCard

/-- THE SECOND FORM's CARD OF 'cloakroomlaw21.CallEnds'. -/
def callEndsUptoCard : Claim7 := { stood := { row := callEndsUptoRow, standIns := [], harness := (true, "d494232871cede08bd5a91dfdee89733053bcc39fa774dff1167f7df83a32693"), looks := false }, kinds := [], alts := [], laidByText := true, laidKinds := [.data, .data], laidTests := true, laidLooks := .later }
def CallEndsUptoCardSaid : Prop := Claim7.holds Tryz.pinned (.plain (OpenSpec.upto callEndsSpec)) callEndsUptoCard

/-- THE SECOND FORM's CARD OF 'cloakroomlaw20.LinkSegs'. -/
def linkSegsUptoCard : Claim7 := { stood := { row := linkSegsUptoRow, standIns := [], harness := (true, "d494232871cede08bd5a91dfdee89733053bcc39fa774dff1167f7df83a32693"), looks := false }, kinds := [], alts := [], laidByText := true, laidKinds := [.data, .data], laidTests := true, laidLooks := .later }
def LinkSegsUptoCardSaid : Prop := Claim7.holds Tryz.pinned (.plain (OpenSpec.upto linkSegsSpec)) linkSegsUptoCard

/-- THE SECOND FORM's CARD OF 'cloakroomlaw20.LinkStarts'. -/
def linkStartsUptoCard : Claim7 := { stood := { row := linkStartsUptoRow, standIns := [], harness := (true, "d494232871cede08bd5a91dfdee89733053bcc39fa774dff1167f7df83a32693"), looks := false }, kinds := [], alts := [], laidByText := true, laidKinds := [.data, .data], laidTests := true, laidLooks := .later }
def LinkStartsUptoCardSaid : Prop := Claim7.holds Tryz.pinned (.plain (OpenSpec.upto linkStartsSpec)) linkStartsUptoCard

/-- THE SECOND FORM's CARD OF 'cloakroomlaw20.LinkData'. -/
def linkDataUptoCard : Claim7 := { stood := { row := linkDataUptoRow, standIns := [], harness := (true, "d494232871cede08bd5a91dfdee89733053bcc39fa774dff1167f7df83a32693"), looks := false }, kinds := [], alts := [], laidByText := true, laidKinds := [.data, .data], laidTests := true, laidLooks := .later }
def LinkDataUptoCardSaid : Prop := Claim7.holds Tryz.pinned (.plain (OpenSpec.upto linkDataSpec)) linkDataUptoCard
end Rows
end Go.Proofs.YtjbdldekllffkaaGreatDoor
