/-
  DERIVED. GIVEN WITH THE SEED: THE CARDS: each row of YtkmlhhiialbfgaaGreatDoorRows.lean that lists a variable, with what it lists TIED to the program's text (the seventh form; the later family's looks); each row that meets fmt, with fmt's text TOLD by the authors' own Lean function (tested against real Go, not proved from fmt's source: count such statements apart). THE CARD IS WHAT COUNTS. Prove the row's statement (the work); the ties are given (YtkmlhhiialbfgaaGreatDoorTie.lean); close each card by the builder's one call (the guide's Derived/Test/ToyasCard.lean, 'card_holds'). Laid BY PROGRAM, IN A SANDBOX (cutbox-door.mjs). By AI agents, Wed Nov 11 2026. No macro, syntax, notation, axiom, sorry.
-/
import Derived.Test.YtkmlhhiialbfgaaGreatDoorRows
import GoSem.ClaimSeven
namespace Go.Proofs.YtkmlhhiialbfgaaGreatDoor
namespace Rows

/-- THE TIED CARD OF 'cloakroomlaw21.CallNone'. -/
def callNoneCard : Claim7 := { stood := { row := callNoneRow, standIns := [], harness := (true, "c6d2b9488acac07dfeddec2354b33e2206690df0de4901fc5f66fb52fb4ff9e9"), looks := false }, kinds := [], alts := [], laidByText := true, laidKinds := [.data, .data], laidTests := true, laidLooks := .later }
def CallNoneCardSaid : Prop := Claim7.holds Tryz.pinned (.plain (OpenSpec.ofChange callNoneSpec)) callNoneCard

/-- THE TIED CARD OF 'cloakroomlaw21.CallArgs'. -/
def callArgsCard : Claim7 := { stood := { row := callArgsRow, standIns := [], harness := (true, "c6d2b9488acac07dfeddec2354b33e2206690df0de4901fc5f66fb52fb4ff9e9"), looks := false }, kinds := [], alts := [], laidByText := true, laidKinds := [.data, .data], laidTests := true, laidLooks := .later }
def CallArgsCardSaid : Prop := Claim7.holds Tryz.pinned (.plain (OpenSpec.ofChange callArgsSpec)) callArgsCard

/-- THE TIED CARD OF 'cloakroomlaw27.HouseTaken'. -/
def houseTakenCard : Claim7 := { stood := { row := houseTakenRow, standIns := [], harness := (true, "c6d2b9488acac07dfeddec2354b33e2206690df0de4901fc5f66fb52fb4ff9e9"), looks := false }, kinds := [], alts := [], laidByText := true, laidKinds := [.data, .data], laidTests := true, laidLooks := .later }
def HouseTakenCardSaid : Prop := Claim7.holds Tryz.pinned (.plain (OpenSpec.ofChange houseTakenSpec)) houseTakenCard

/-- THE TIED CARD OF 'cloakroomlaw27.HouseNone'. -/
def houseNoneCard : Claim7 := { stood := { row := houseNoneRow, standIns := [], harness := (true, "c6d2b9488acac07dfeddec2354b33e2206690df0de4901fc5f66fb52fb4ff9e9"), looks := false }, kinds := [], alts := [], laidByText := true, laidKinds := [.data, .data], laidTests := true, laidLooks := .later }
def HouseNoneCardSaid : Prop := Claim7.holds Tryz.pinned (.plain (OpenSpec.ofChange houseNoneSpec)) houseNoneCard

/-- THE TIED CARD OF 'cloakroomlaw27.HouseStops'. -/
def houseStopsCard : Claim7 := { stood := { row := houseStopsRow, standIns := [], harness := (true, "c6d2b9488acac07dfeddec2354b33e2206690df0de4901fc5f66fb52fb4ff9e9"), looks := false }, kinds := [], alts := [], laidByText := true, laidKinds := [.data, .data], laidTests := true, laidLooks := .later }
def HouseStopsCardSaid : Prop := Claim7.holds Tryz.pinned (.plain (OpenSpec.ofChange houseStopsSpec)) houseStopsCard

/-- THE TIED CARD OF 'cloakroomlaw27.HouseCopy'. -/
def houseCopyCard : Claim7 := { stood := { row := houseCopyRow, standIns := [], harness := (true, "c6d2b9488acac07dfeddec2354b33e2206690df0de4901fc5f66fb52fb4ff9e9"), looks := false }, kinds := [], alts := [], laidByText := true, laidKinds := [.data, .data], laidTests := true, laidLooks := .later }
def HouseCopyCardSaid : Prop := Claim7.holds Tryz.pinned (.plain (OpenSpec.ofChange houseCopySpec)) houseCopyCard

/-- THE TIED CARD OF 'cloakroomlaw19.SliceNone'. -/
def sliceNoneCard : Claim7 := { stood := { row := sliceNoneRow, standIns := [], harness := (true, "c6d2b9488acac07dfeddec2354b33e2206690df0de4901fc5f66fb52fb4ff9e9"), looks := false }, kinds := [], alts := [], laidByText := true, laidKinds := [.data, .data], laidTests := true, laidLooks := .later }
def SliceNoneCardSaid : Prop := Claim7.holds Tryz.pinned (.plain (OpenSpec.ofChange sliceNoneSpec)) sliceNoneCard

/-- THE TIED CARD OF 'cloakroomlaw18.StepNumbers'. -/
def stepNumbersCard : Claim7 := { stood := { row := stepNumbersRow, standIns := [], harness := (true, "c6d2b9488acac07dfeddec2354b33e2206690df0de4901fc5f66fb52fb4ff9e9"), looks := false }, kinds := [], alts := [], laidByText := true, laidKinds := [.data, .data], laidTests := true, laidLooks := .later }
def StepNumbersCardSaid : Prop := Claim7.holds Tryz.pinned (.plain (OpenSpec.ofChange stepNumbersSpec)) stepNumbersCard

/-- THE TIED CARD OF 'cloakroomlaw20.LinkStarts'. -/
def linkStartsCard : Claim7 := { stood := { row := linkStartsRow, standIns := [], harness := (true, "c6d2b9488acac07dfeddec2354b33e2206690df0de4901fc5f66fb52fb4ff9e9"), looks := false }, kinds := [], alts := [], laidByText := true, laidKinds := [.data, .data], laidTests := true, laidLooks := .later }
def LinkStartsCardSaid : Prop := Claim7.holds Tryz.pinned (.plain (OpenSpec.ofChange linkStartsSpec)) linkStartsCard

/-- THE TIED CARD OF 'cloakroomlaw21.CallEnds'. -/
def callEndsCard : Claim7 := { stood := { row := callEndsRow, standIns := [], harness := (true, "c6d2b9488acac07dfeddec2354b33e2206690df0de4901fc5f66fb52fb4ff9e9"), looks := false }, kinds := [], alts := [], laidByText := true, laidKinds := [.data, .data], laidTests := true, laidLooks := .later }
def CallEndsCardSaid : Prop := Claim7.holds Tryz.pinned (.plain (OpenSpec.ofChange callEndsSpec)) callEndsCard

/-- THE SECOND FORM's CARD OF 'cloakroomlaw21.CallNone'. -/
def callNoneUptoCard : Claim7 := { stood := { row := callNoneUptoRow, standIns := [], harness := (true, "c6d2b9488acac07dfeddec2354b33e2206690df0de4901fc5f66fb52fb4ff9e9"), looks := false }, kinds := [], alts := [], laidByText := true, laidKinds := [.data, .data], laidTests := true, laidLooks := .later }
def CallNoneUptoCardSaid : Prop := Claim7.holds Tryz.pinned (.plain (OpenSpec.upto callNoneSpec)) callNoneUptoCard

/-- THE SECOND FORM's CARD OF 'cloakroomlaw21.CallArgs'. -/
def callArgsUptoCard : Claim7 := { stood := { row := callArgsUptoRow, standIns := [], harness := (true, "c6d2b9488acac07dfeddec2354b33e2206690df0de4901fc5f66fb52fb4ff9e9"), looks := false }, kinds := [], alts := [], laidByText := true, laidKinds := [.data, .data], laidTests := true, laidLooks := .later }
def CallArgsUptoCardSaid : Prop := Claim7.holds Tryz.pinned (.plain (OpenSpec.upto callArgsSpec)) callArgsUptoCard

/-- THE SECOND FORM's CARD OF 'cloakroomlaw27.HouseTaken'. -/
def houseTakenUptoCard : Claim7 := { stood := { row := houseTakenUptoRow, standIns := [], harness := (true, "c6d2b9488acac07dfeddec2354b33e2206690df0de4901fc5f66fb52fb4ff9e9"), looks := false }, kinds := [], alts := [], laidByText := true, laidKinds := [.data, .data], laidTests := true, laidLooks := .later }
def HouseTakenUptoCardSaid : Prop := Claim7.holds Tryz.pinned (.plain (OpenSpec.upto houseTakenSpec)) houseTakenUptoCard

/-- THE SECOND FORM's CARD OF 'cloakroomlaw27.HouseNone'. -/
def houseNoneUptoCard : Claim7 := { stood := { row := houseNoneUptoRow, standIns := [], harness := (true, "c6d2b9488acac07dfeddec2354b33e2206690df0de4901fc5f66fb52fb4ff9e9"), looks := false }, kinds := [], alts := [], laidByText := true, laidKinds := [.data, .data], laidTests := true, laidLooks := .later }
def HouseNoneUptoCardSaid : Prop := Claim7.holds Tryz.pinned (.plain (OpenSpec.upto houseNoneSpec)) houseNoneUptoCard

/-- THE SECOND FORM's CARD OF 'cloakroomlaw27.HouseStops'. -/
def houseStopsUptoCard : Claim7 := { stood := { row := houseStopsUptoRow, standIns := [], harness := (true, "c6d2b9488acac07dfeddec2354b33e2206690df0de4901fc5f66fb52fb4ff9e9"), looks := false }, kinds := [], alts := [], laidByText := true, laidKinds := [.data, .data], laidTests := true, laidLooks := .later }
def HouseStopsUptoCardSaid : Prop := Claim7.holds Tryz.pinned (.plain (OpenSpec.upto houseStopsSpec)) houseStopsUptoCard

/-- THE SECOND FORM's CARD OF 'cloakroomlaw27.HouseCopy'. -/
def houseCopyUptoCard : Claim7 := { stood := { row := houseCopyUptoRow, standIns := [], harness := (true, "c6d2b9488acac07dfeddec2354b33e2206690df0de4901fc5f66fb52fb4ff9e9"), looks := false }, kinds := [], alts := [], laidByText := true, laidKinds := [.data, .data], laidTests := true, laidLooks := .later }
def HouseCopyUptoCardSaid : Prop := Claim7.holds Tryz.pinned (.plain (OpenSpec.upto houseCopySpec)) houseCopyUptoCard

/-- THE SECOND FORM's CARD OF 'cloakroomlaw19.SliceNone'. -/
def sliceNoneUptoCard : Claim7 := { stood := { row := sliceNoneUptoRow, standIns := [], harness := (true, "c6d2b9488acac07dfeddec2354b33e2206690df0de4901fc5f66fb52fb4ff9e9"), looks := false }, kinds := [], alts := [], laidByText := true, laidKinds := [.data, .data], laidTests := true, laidLooks := .later }
def SliceNoneUptoCardSaid : Prop := Claim7.holds Tryz.pinned (.plain (OpenSpec.upto sliceNoneSpec)) sliceNoneUptoCard

/-- THE SECOND FORM's CARD OF 'cloakroomlaw18.StepNumbers'. -/
def stepNumbersUptoCard : Claim7 := { stood := { row := stepNumbersUptoRow, standIns := [], harness := (true, "c6d2b9488acac07dfeddec2354b33e2206690df0de4901fc5f66fb52fb4ff9e9"), looks := false }, kinds := [], alts := [], laidByText := true, laidKinds := [.data, .data], laidTests := true, laidLooks := .later }
def StepNumbersUptoCardSaid : Prop := Claim7.holds Tryz.pinned (.plain (OpenSpec.upto stepNumbersSpec)) stepNumbersUptoCard

/-- THE SECOND FORM's CARD OF 'cloakroomlaw20.LinkStarts'. -/
def linkStartsUptoCard : Claim7 := { stood := { row := linkStartsUptoRow, standIns := [], harness := (true, "c6d2b9488acac07dfeddec2354b33e2206690df0de4901fc5f66fb52fb4ff9e9"), looks := false }, kinds := [], alts := [], laidByText := true, laidKinds := [.data, .data], laidTests := true, laidLooks := .later }
def LinkStartsUptoCardSaid : Prop := Claim7.holds Tryz.pinned (.plain (OpenSpec.upto linkStartsSpec)) linkStartsUptoCard

/-- THE SECOND FORM's CARD OF 'cloakroomlaw21.CallEnds'. -/
def callEndsUptoCard : Claim7 := { stood := { row := callEndsUptoRow, standIns := [], harness := (true, "c6d2b9488acac07dfeddec2354b33e2206690df0de4901fc5f66fb52fb4ff9e9"), looks := false }, kinds := [], alts := [], laidByText := true, laidKinds := [.data, .data], laidTests := true, laidLooks := .later }
def CallEndsUptoCardSaid : Prop := Claim7.holds Tryz.pinned (.plain (OpenSpec.upto callEndsSpec)) callEndsUptoCard
end Rows
end Go.Proofs.YtkmlhhiialbfgaaGreatDoor
