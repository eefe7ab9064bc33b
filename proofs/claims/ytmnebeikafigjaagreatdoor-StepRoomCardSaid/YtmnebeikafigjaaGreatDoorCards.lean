/-
  DERIVED. GIVEN WITH THE SEED: THE CARDS: each row of YtmnebeikafigjaaGreatDoorRows.lean that lists a variable, with what it lists TIED to the program's text (the seventh form; the later family's looks); each row that meets fmt, with fmt's text TOLD by the authors' own Lean function (tested against real Go, not proved from fmt's source: count such statements apart). THE CARD IS WHAT COUNTS. Prove the row's statement (the work); the ties are given (YtmnebeikafigjaaGreatDoorTie.lean); close each card by the builder's one call (the guide's Derived/Test/ToyasCard.lean, 'card_holds'). Laid BY PROGRAM, IN A SANDBOX (cutbox-door.mjs). By AI agents, Wed Nov 11 2026. No macro, syntax, notation, axiom, sorry.
-/
import Derived.Test.YtmnebeikafigjaaGreatDoorRows
import GoSem.ClaimSeven
namespace Go.Proofs.YtmnebeikafigjaaGreatDoor
namespace Rows

/-- THE TIED CARD OF 'cloakroomlaw18.StepRoom'. -/
def stepRoomCard : Claim7 := { stood := { row := stepRoomRow, standIns := [], harness := (true, "053854b3e2b57d87dae218583546e4f81c049450013affaca69751f83a262b40"), looks := false }, kinds := [], alts := [], laidByText := true, laidKinds := [.data, .data], laidTests := true, laidLooks := .later }
def StepRoomCardSaid : Prop := Claim7.holds Tryz.pinned (.plain (OpenSpec.ofChange stepRoomSpec)) stepRoomCard

/-- THE TIED CARD OF 'cloakroomlaw18.StepInits'. -/
def stepInitsCard : Claim7 := { stood := { row := stepInitsRow, standIns := [], harness := (true, "053854b3e2b57d87dae218583546e4f81c049450013affaca69751f83a262b40"), looks := false }, kinds := [], alts := [], laidByText := true, laidKinds := [.data, .data], laidTests := true, laidLooks := .later }
def StepInitsCardSaid : Prop := Claim7.holds Tryz.pinned (.plain (OpenSpec.ofChange stepInitsSpec)) stepInitsCard

/-- THE TIED CARD OF 'cloakroomlaw21.CallEnds'. -/
def callEndsCard : Claim7 := { stood := { row := callEndsRow, standIns := [], harness := (true, "053854b3e2b57d87dae218583546e4f81c049450013affaca69751f83a262b40"), looks := false }, kinds := [], alts := [], laidByText := true, laidKinds := [.data, .data], laidTests := true, laidLooks := .later }
def CallEndsCardSaid : Prop := Claim7.holds Tryz.pinned (.plain (OpenSpec.ofChange callEndsSpec)) callEndsCard

/-- THE TIED CARD OF 'cloakroomlaw20.LinkSegs'. -/
def linkSegsCard : Claim7 := { stood := { row := linkSegsRow, standIns := [], harness := (true, "053854b3e2b57d87dae218583546e4f81c049450013affaca69751f83a262b40"), looks := false }, kinds := [], alts := [], laidByText := true, laidKinds := [.data, .data], laidTests := true, laidLooks := .later }
def LinkSegsCardSaid : Prop := Claim7.holds Tryz.pinned (.plain (OpenSpec.ofChange linkSegsSpec)) linkSegsCard

/-- THE TIED CARD OF 'cloakroomlaw20.LinkData'. -/
def linkDataCard : Claim7 := { stood := { row := linkDataRow, standIns := [], harness := (true, "053854b3e2b57d87dae218583546e4f81c049450013affaca69751f83a262b40"), looks := false }, kinds := [], alts := [], laidByText := true, laidKinds := [.data, .data], laidTests := true, laidLooks := .later }
def LinkDataCardSaid : Prop := Claim7.holds Tryz.pinned (.plain (OpenSpec.ofChange linkDataSpec)) linkDataCard

/-- THE TIED CARD OF 'cloakroomlaw19.SliceCuts'. -/
def sliceCutsCard : Claim7 := { stood := { row := sliceCutsRow, standIns := [], harness := (true, "053854b3e2b57d87dae218583546e4f81c049450013affaca69751f83a262b40"), looks := false }, kinds := [], alts := [], laidByText := true, laidKinds := [.data, .data], laidTests := true, laidLooks := .later }
def SliceCutsCardSaid : Prop := Claim7.holds Tryz.pinned (.plain (OpenSpec.ofChange sliceCutsSpec)) sliceCutsCard

/-- THE SECOND FORM's CARD OF 'cloakroomlaw18.StepRoom'. -/
def stepRoomUptoCard : Claim7 := { stood := { row := stepRoomUptoRow, standIns := [], harness := (true, "053854b3e2b57d87dae218583546e4f81c049450013affaca69751f83a262b40"), looks := false }, kinds := [], alts := [], laidByText := true, laidKinds := [.data, .data], laidTests := true, laidLooks := .later }
def StepRoomUptoCardSaid : Prop := Claim7.holds Tryz.pinned (.plain (OpenSpec.upto stepRoomSpec)) stepRoomUptoCard

/-- THE SECOND FORM's CARD OF 'cloakroomlaw18.StepInits'. -/
def stepInitsUptoCard : Claim7 := { stood := { row := stepInitsUptoRow, standIns := [], harness := (true, "053854b3e2b57d87dae218583546e4f81c049450013affaca69751f83a262b40"), looks := false }, kinds := [], alts := [], laidByText := true, laidKinds := [.data, .data], laidTests := true, laidLooks := .later }
def StepInitsUptoCardSaid : Prop := Claim7.holds Tryz.pinned (.plain (OpenSpec.upto stepInitsSpec)) stepInitsUptoCard

/-- THE SECOND FORM's CARD OF 'cloakroomlaw21.CallEnds'. -/
def callEndsUptoCard : Claim7 := { stood := { row := callEndsUptoRow, standIns := [], harness := (true, "053854b3e2b57d87dae218583546e4f81c049450013affaca69751f83a262b40"), looks := false }, kinds := [], alts := [], laidByText := true, laidKinds := [.data, .data], laidTests := true, laidLooks := .later }
def CallEndsUptoCardSaid : Prop := Claim7.holds Tryz.pinned (.plain (OpenSpec.upto callEndsSpec)) callEndsUptoCard

/-- THE SECOND FORM's CARD OF 'cloakroomlaw20.LinkSegs'. -/
def linkSegsUptoCard : Claim7 := { stood := { row := linkSegsUptoRow, standIns := [], harness := (true, "053854b3e2b57d87dae218583546e4f81c049450013affaca69751f83a262b40"), looks := false }, kinds := [], alts := [], laidByText := true, laidKinds := [.data, .data], laidTests := true, laidLooks := .later }
def LinkSegsUptoCardSaid : Prop := Claim7.holds Tryz.pinned (.plain (OpenSpec.upto linkSegsSpec)) linkSegsUptoCard

/-- THE SECOND FORM's CARD OF 'cloakroomlaw20.LinkData'. -/
def linkDataUptoCard : Claim7 := { stood := { row := linkDataUptoRow, standIns := [], harness := (true, "053854b3e2b57d87dae218583546e4f81c049450013affaca69751f83a262b40"), looks := false }, kinds := [], alts := [], laidByText := true, laidKinds := [.data, .data], laidTests := true, laidLooks := .later }
def LinkDataUptoCardSaid : Prop := Claim7.holds Tryz.pinned (.plain (OpenSpec.upto linkDataSpec)) linkDataUptoCard

/-- THE SECOND FORM's CARD OF 'cloakroomlaw19.SliceCuts'. -/
def sliceCutsUptoCard : Claim7 := { stood := { row := sliceCutsUptoRow, standIns := [], harness := (true, "053854b3e2b57d87dae218583546e4f81c049450013affaca69751f83a262b40"), looks := false }, kinds := [], alts := [], laidByText := true, laidKinds := [.data, .data], laidTests := true, laidLooks := .later }
def SliceCutsUptoCardSaid : Prop := Claim7.holds Tryz.pinned (.plain (OpenSpec.upto sliceCutsSpec)) sliceCutsUptoCard
end Rows
end Go.Proofs.YtmnebeikafigjaaGreatDoor
