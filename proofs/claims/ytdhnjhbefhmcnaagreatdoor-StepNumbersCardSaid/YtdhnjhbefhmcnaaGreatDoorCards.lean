/-
  DERIVED. GIVEN WITH THE SEED: THE CARDS: each row of YtdhnjhbefhmcnaaGreatDoorRows.lean that lists a variable, with what it lists TIED to the program's text (the seventh form; the later family's looks); each row that meets fmt, with fmt's text TOLD by the authors' own Lean function (tested against real Go, not proved from fmt's source: count such statements apart). THE CARD IS WHAT COUNTS. Prove the row's statement (the work); the ties are given (YtdhnjhbefhmcnaaGreatDoorTie.lean); close each card by the builder's one call (the guide's Derived/Test/ToyasCard.lean, 'card_holds'). Laid BY PROGRAM, IN A SANDBOX (cutbox-door.mjs). By AI agents, Wed Nov 11 2026. No macro, syntax, notation, axiom, sorry.
-/
import Derived.Test.YtdhnjhbefhmcnaaGreatDoorRows
import GoSem.ClaimSeven
namespace Go.Proofs.YtdhnjhbefhmcnaaGreatDoor
namespace Rows

/-- THE TIED CARD OF 'cloakroomlaw18.StepNumbers'. -/
def stepNumbersCard : Claim7 := { stood := { row := stepNumbersRow, standIns := [], harness := (true, "36aaad0734a10eb34f418324e72bf11de79bba2d81ce0f8442be5658796b2ff2"), looks := false }, kinds := [], alts := [], laidByText := true, laidKinds := [.data, .data], laidTests := true, laidLooks := .later }
def StepNumbersCardSaid : Prop := Claim7.holds Tryz.pinned (.plain (OpenSpec.ofChange stepNumbersSpec)) stepNumbersCard

/-- THE TIED CARD OF 'cloakroomlaw18.StepInits'. -/
def stepInitsCard : Claim7 := { stood := { row := stepInitsRow, standIns := [], harness := (true, "36aaad0734a10eb34f418324e72bf11de79bba2d81ce0f8442be5658796b2ff2"), looks := false }, kinds := [], alts := [], laidByText := true, laidKinds := [.data, .data], laidTests := true, laidLooks := .later }
def StepInitsCardSaid : Prop := Claim7.holds Tryz.pinned (.plain (OpenSpec.ofChange stepInitsSpec)) stepInitsCard

/-- THE SECOND FORM's CARD OF 'cloakroomlaw18.StepNumbers'. -/
def stepNumbersUptoCard : Claim7 := { stood := { row := stepNumbersUptoRow, standIns := [], harness := (true, "36aaad0734a10eb34f418324e72bf11de79bba2d81ce0f8442be5658796b2ff2"), looks := false }, kinds := [], alts := [], laidByText := true, laidKinds := [.data, .data], laidTests := true, laidLooks := .later }
def StepNumbersUptoCardSaid : Prop := Claim7.holds Tryz.pinned (.plain (OpenSpec.upto stepNumbersSpec)) stepNumbersUptoCard

/-- THE SECOND FORM's CARD OF 'cloakroomlaw18.StepInits'. -/
def stepInitsUptoCard : Claim7 := { stood := { row := stepInitsUptoRow, standIns := [], harness := (true, "36aaad0734a10eb34f418324e72bf11de79bba2d81ce0f8442be5658796b2ff2"), looks := false }, kinds := [], alts := [], laidByText := true, laidKinds := [.data, .data], laidTests := true, laidLooks := .later }
def StepInitsUptoCardSaid : Prop := Claim7.holds Tryz.pinned (.plain (OpenSpec.upto stepInitsSpec)) stepInitsUptoCard
end Rows
end Go.Proofs.YtdhnjhbefhmcnaaGreatDoor
