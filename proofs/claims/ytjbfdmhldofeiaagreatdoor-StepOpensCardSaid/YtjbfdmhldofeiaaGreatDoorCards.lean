/-
  DERIVED. GIVEN WITH THE SEED: THE CARDS: each row of YtjbfdmhldofeiaaGreatDoorRows.lean that lists a variable, with what it lists TIED to the program's text (the seventh form; the later family's looks); each row that meets fmt, with fmt's text TOLD by the authors' own Lean function (tested against real Go, not proved from fmt's source: count such statements apart). THE CARD IS WHAT COUNTS. Prove the row's statement (the work); the ties are given (YtjbfdmhldofeiaaGreatDoorTie.lean); close each card by the builder's one call (the guide's Derived/Test/ToyasCard.lean, 'card_holds'). Laid BY PROGRAM, IN A SANDBOX (cutbox-door.mjs). By AI agents, Wed Nov 11 2026. No macro, syntax, notation, axiom, sorry.
-/
import Derived.Test.YtjbfdmhldofeiaaGreatDoorRows
import GoSem.ClaimSeven
namespace Go.Proofs.YtjbfdmhldofeiaaGreatDoor
namespace Rows

/-- THE TIED CARD OF 'cloakroomlaw18.StepBlocks'. -/
def stepBlocksCard : Claim7 := { stood := { row := stepBlocksRow, standIns := [], harness := (true, "e580737f87595b4654ef74b61c814589033020eae4ccf48fab66bf3384875bd8"), looks := false }, kinds := [], alts := [], laidByText := true, laidKinds := [.data, .data], laidTests := true, laidLooks := .later }
def StepBlocksCardSaid : Prop := Claim7.holds Tryz.pinned (.plain (OpenSpec.ofChange stepBlocksSpec)) stepBlocksCard

/-- THE TIED CARD OF 'cloakroomlaw18.StepIfs'. -/
def stepIfsCard : Claim7 := { stood := { row := stepIfsRow, standIns := [], harness := (true, "e580737f87595b4654ef74b61c814589033020eae4ccf48fab66bf3384875bd8"), looks := false }, kinds := [], alts := [], laidByText := true, laidKinds := [.data, .data], laidTests := true, laidLooks := .later }
def StepIfsCardSaid : Prop := Claim7.holds Tryz.pinned (.plain (OpenSpec.ofChange stepIfsSpec)) stepIfsCard

/-- THE TIED CARD OF 'cloakroomlaw18.StepTables'. -/
def stepTablesCard : Claim7 := { stood := { row := stepTablesRow, standIns := [], harness := (true, "e580737f87595b4654ef74b61c814589033020eae4ccf48fab66bf3384875bd8"), looks := false }, kinds := [], alts := [], laidByText := true, laidKinds := [.data, .data], laidTests := true, laidLooks := .later }
def StepTablesCardSaid : Prop := Claim7.holds Tryz.pinned (.plain (OpenSpec.ofChange stepTablesSpec)) stepTablesCard

/-- THE TIED CARD OF 'cloakroomlaw18.StepCalls'. -/
def stepCallsCard : Claim7 := { stood := { row := stepCallsRow, standIns := [], harness := (true, "e580737f87595b4654ef74b61c814589033020eae4ccf48fab66bf3384875bd8"), looks := false }, kinds := [], alts := [], laidByText := true, laidKinds := [.data, .data], laidTests := true, laidLooks := .later }
def StepCallsCardSaid : Prop := Claim7.holds Tryz.pinned (.plain (OpenSpec.ofChange stepCallsSpec)) stepCallsCard

/-- THE TIED CARD OF 'cloakroomlaw18.StepRefs'. -/
def stepRefsCard : Claim7 := { stood := { row := stepRefsRow, standIns := [], harness := (true, "e580737f87595b4654ef74b61c814589033020eae4ccf48fab66bf3384875bd8"), looks := false }, kinds := [], alts := [], laidByText := true, laidKinds := [.data, .data], laidTests := true, laidLooks := .later }
def StepRefsCardSaid : Prop := Claim7.holds Tryz.pinned (.plain (OpenSpec.ofChange stepRefsSpec)) stepRefsCard

/-- THE TIED CARD OF 'cloakroomlaw18.StepMemory'. -/
def stepMemoryCard : Claim7 := { stood := { row := stepMemoryRow, standIns := [], harness := (true, "e580737f87595b4654ef74b61c814589033020eae4ccf48fab66bf3384875bd8"), looks := false }, kinds := [], alts := [], laidByText := true, laidKinds := [.data, .data], laidTests := true, laidLooks := .later }
def StepMemoryCardSaid : Prop := Claim7.holds Tryz.pinned (.plain (OpenSpec.ofChange stepMemorySpec)) stepMemoryCard

/-- THE TIED CARD OF 'cloakroomlaw18.StepRoom'. -/
def stepRoomCard : Claim7 := { stood := { row := stepRoomRow, standIns := [], harness := (true, "e580737f87595b4654ef74b61c814589033020eae4ccf48fab66bf3384875bd8"), looks := false }, kinds := [], alts := [], laidByText := true, laidKinds := [.data, .data], laidTests := true, laidLooks := .later }
def StepRoomCardSaid : Prop := Claim7.holds Tryz.pinned (.plain (OpenSpec.ofChange stepRoomSpec)) stepRoomCard

/-- THE TIED CARD OF 'cloakroomlaw18.StepLocals'. -/
def stepLocalsCard : Claim7 := { stood := { row := stepLocalsRow, standIns := [], harness := (true, "e580737f87595b4654ef74b61c814589033020eae4ccf48fab66bf3384875bd8"), looks := false }, kinds := [], alts := [], laidByText := true, laidKinds := [.data, .data], laidTests := true, laidLooks := .later }
def StepLocalsCardSaid : Prop := Claim7.holds Tryz.pinned (.plain (OpenSpec.ofChange stepLocalsSpec)) stepLocalsCard

/-- THE TIED CARD OF 'cloakroomlaw18.StepMulti'. -/
def stepMultiCard : Claim7 := { stood := { row := stepMultiRow, standIns := [], harness := (true, "e580737f87595b4654ef74b61c814589033020eae4ccf48fab66bf3384875bd8"), looks := false }, kinds := [], alts := [], laidByText := true, laidKinds := [.data, .data], laidTests := true, laidLooks := .later }
def StepMultiCardSaid : Prop := Claim7.holds Tryz.pinned (.plain (OpenSpec.ofChange stepMultiSpec)) stepMultiCard

/-- THE TIED CARD OF 'cloakroomlaw18.StepInits'. -/
def stepInitsCard : Claim7 := { stood := { row := stepInitsRow, standIns := [], harness := (true, "e580737f87595b4654ef74b61c814589033020eae4ccf48fab66bf3384875bd8"), looks := false }, kinds := [], alts := [], laidByText := true, laidKinds := [.data, .data], laidTests := true, laidLooks := .later }
def StepInitsCardSaid : Prop := Claim7.holds Tryz.pinned (.plain (OpenSpec.ofChange stepInitsSpec)) stepInitsCard

/-- THE TIED CARD OF 'cloakroomlaw18.StepOpens'. -/
def stepOpensCard : Claim7 := { stood := { row := stepOpensRow, standIns := [], harness := (true, "e580737f87595b4654ef74b61c814589033020eae4ccf48fab66bf3384875bd8"), looks := false }, kinds := [], alts := [], laidByText := true, laidKinds := [.data, .data], laidTests := true, laidLooks := .later }
def StepOpensCardSaid : Prop := Claim7.holds Tryz.pinned (.plain (OpenSpec.ofChange stepOpensSpec)) stepOpensCard

/-- THE TIED CARD OF 'cloakroomlaw18.StepConverts'. -/
def stepConvertsCard : Claim7 := { stood := { row := stepConvertsRow, standIns := [], harness := (true, "e580737f87595b4654ef74b61c814589033020eae4ccf48fab66bf3384875bd8"), looks := false }, kinds := [], alts := [], laidByText := true, laidKinds := [.data, .data], laidTests := true, laidLooks := .later }
def StepConvertsCardSaid : Prop := Claim7.holds Tryz.pinned (.plain (OpenSpec.ofChange stepConvertsSpec)) stepConvertsCard

/-- THE SECOND FORM's CARD OF 'cloakroomlaw18.StepBlocks'. -/
def stepBlocksUptoCard : Claim7 := { stood := { row := stepBlocksUptoRow, standIns := [], harness := (true, "e580737f87595b4654ef74b61c814589033020eae4ccf48fab66bf3384875bd8"), looks := false }, kinds := [], alts := [], laidByText := true, laidKinds := [.data, .data], laidTests := true, laidLooks := .later }
def StepBlocksUptoCardSaid : Prop := Claim7.holds Tryz.pinned (.plain (OpenSpec.upto stepBlocksSpec)) stepBlocksUptoCard

/-- THE SECOND FORM's CARD OF 'cloakroomlaw18.StepIfs'. -/
def stepIfsUptoCard : Claim7 := { stood := { row := stepIfsUptoRow, standIns := [], harness := (true, "e580737f87595b4654ef74b61c814589033020eae4ccf48fab66bf3384875bd8"), looks := false }, kinds := [], alts := [], laidByText := true, laidKinds := [.data, .data], laidTests := true, laidLooks := .later }
def StepIfsUptoCardSaid : Prop := Claim7.holds Tryz.pinned (.plain (OpenSpec.upto stepIfsSpec)) stepIfsUptoCard

/-- THE SECOND FORM's CARD OF 'cloakroomlaw18.StepTables'. -/
def stepTablesUptoCard : Claim7 := { stood := { row := stepTablesUptoRow, standIns := [], harness := (true, "e580737f87595b4654ef74b61c814589033020eae4ccf48fab66bf3384875bd8"), looks := false }, kinds := [], alts := [], laidByText := true, laidKinds := [.data, .data], laidTests := true, laidLooks := .later }
def StepTablesUptoCardSaid : Prop := Claim7.holds Tryz.pinned (.plain (OpenSpec.upto stepTablesSpec)) stepTablesUptoCard

/-- THE SECOND FORM's CARD OF 'cloakroomlaw18.StepCalls'. -/
def stepCallsUptoCard : Claim7 := { stood := { row := stepCallsUptoRow, standIns := [], harness := (true, "e580737f87595b4654ef74b61c814589033020eae4ccf48fab66bf3384875bd8"), looks := false }, kinds := [], alts := [], laidByText := true, laidKinds := [.data, .data], laidTests := true, laidLooks := .later }
def StepCallsUptoCardSaid : Prop := Claim7.holds Tryz.pinned (.plain (OpenSpec.upto stepCallsSpec)) stepCallsUptoCard

/-- THE SECOND FORM's CARD OF 'cloakroomlaw18.StepRefs'. -/
def stepRefsUptoCard : Claim7 := { stood := { row := stepRefsUptoRow, standIns := [], harness := (true, "e580737f87595b4654ef74b61c814589033020eae4ccf48fab66bf3384875bd8"), looks := false }, kinds := [], alts := [], laidByText := true, laidKinds := [.data, .data], laidTests := true, laidLooks := .later }
def StepRefsUptoCardSaid : Prop := Claim7.holds Tryz.pinned (.plain (OpenSpec.upto stepRefsSpec)) stepRefsUptoCard

/-- THE SECOND FORM's CARD OF 'cloakroomlaw18.StepMemory'. -/
def stepMemoryUptoCard : Claim7 := { stood := { row := stepMemoryUptoRow, standIns := [], harness := (true, "e580737f87595b4654ef74b61c814589033020eae4ccf48fab66bf3384875bd8"), looks := false }, kinds := [], alts := [], laidByText := true, laidKinds := [.data, .data], laidTests := true, laidLooks := .later }
def StepMemoryUptoCardSaid : Prop := Claim7.holds Tryz.pinned (.plain (OpenSpec.upto stepMemorySpec)) stepMemoryUptoCard

/-- THE SECOND FORM's CARD OF 'cloakroomlaw18.StepRoom'. -/
def stepRoomUptoCard : Claim7 := { stood := { row := stepRoomUptoRow, standIns := [], harness := (true, "e580737f87595b4654ef74b61c814589033020eae4ccf48fab66bf3384875bd8"), looks := false }, kinds := [], alts := [], laidByText := true, laidKinds := [.data, .data], laidTests := true, laidLooks := .later }
def StepRoomUptoCardSaid : Prop := Claim7.holds Tryz.pinned (.plain (OpenSpec.upto stepRoomSpec)) stepRoomUptoCard

/-- THE SECOND FORM's CARD OF 'cloakroomlaw18.StepLocals'. -/
def stepLocalsUptoCard : Claim7 := { stood := { row := stepLocalsUptoRow, standIns := [], harness := (true, "e580737f87595b4654ef74b61c814589033020eae4ccf48fab66bf3384875bd8"), looks := false }, kinds := [], alts := [], laidByText := true, laidKinds := [.data, .data], laidTests := true, laidLooks := .later }
def StepLocalsUptoCardSaid : Prop := Claim7.holds Tryz.pinned (.plain (OpenSpec.upto stepLocalsSpec)) stepLocalsUptoCard

/-- THE SECOND FORM's CARD OF 'cloakroomlaw18.StepMulti'. -/
def stepMultiUptoCard : Claim7 := { stood := { row := stepMultiUptoRow, standIns := [], harness := (true, "e580737f87595b4654ef74b61c814589033020eae4ccf48fab66bf3384875bd8"), looks := false }, kinds := [], alts := [], laidByText := true, laidKinds := [.data, .data], laidTests := true, laidLooks := .later }
def StepMultiUptoCardSaid : Prop := Claim7.holds Tryz.pinned (.plain (OpenSpec.upto stepMultiSpec)) stepMultiUptoCard

/-- THE SECOND FORM's CARD OF 'cloakroomlaw18.StepInits'. -/
def stepInitsUptoCard : Claim7 := { stood := { row := stepInitsUptoRow, standIns := [], harness := (true, "e580737f87595b4654ef74b61c814589033020eae4ccf48fab66bf3384875bd8"), looks := false }, kinds := [], alts := [], laidByText := true, laidKinds := [.data, .data], laidTests := true, laidLooks := .later }
def StepInitsUptoCardSaid : Prop := Claim7.holds Tryz.pinned (.plain (OpenSpec.upto stepInitsSpec)) stepInitsUptoCard

/-- THE SECOND FORM's CARD OF 'cloakroomlaw18.StepOpens'. -/
def stepOpensUptoCard : Claim7 := { stood := { row := stepOpensUptoRow, standIns := [], harness := (true, "e580737f87595b4654ef74b61c814589033020eae4ccf48fab66bf3384875bd8"), looks := false }, kinds := [], alts := [], laidByText := true, laidKinds := [.data, .data], laidTests := true, laidLooks := .later }
def StepOpensUptoCardSaid : Prop := Claim7.holds Tryz.pinned (.plain (OpenSpec.upto stepOpensSpec)) stepOpensUptoCard

/-- THE SECOND FORM's CARD OF 'cloakroomlaw18.StepConverts'. -/
def stepConvertsUptoCard : Claim7 := { stood := { row := stepConvertsUptoRow, standIns := [], harness := (true, "e580737f87595b4654ef74b61c814589033020eae4ccf48fab66bf3384875bd8"), looks := false }, kinds := [], alts := [], laidByText := true, laidKinds := [.data, .data], laidTests := true, laidLooks := .later }
def StepConvertsUptoCardSaid : Prop := Claim7.holds Tryz.pinned (.plain (OpenSpec.upto stepConvertsSpec)) stepConvertsUptoCard
end Rows
end Go.Proofs.YtjbfdmhldofeiaaGreatDoor
