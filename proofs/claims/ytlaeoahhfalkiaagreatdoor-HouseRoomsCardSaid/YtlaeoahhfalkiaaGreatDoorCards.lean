/-
  DERIVED. GIVEN WITH THE SEED: THE CARDS: each row of YtlaeoahhfalkiaaGreatDoorRows.lean that lists a variable, with what it lists TIED to the program's text (the seventh form; the later family's looks); each row that meets fmt, with fmt's text TOLD by the authors' own Lean function (tested against real Go, not proved from fmt's source: count such statements apart). THE CARD IS WHAT COUNTS. Prove the row's statement (the work); the ties are given (YtlaeoahhfalkiaaGreatDoorTie.lean); close each card by the builder's one call (the guide's Derived/Test/ToyasCard.lean, 'card_holds'). Laid BY PROGRAM, IN A SANDBOX (cutbox-door.mjs). By AI agents, Wed Nov 11 2026. No macro, syntax, notation, axiom, sorry.
-/
import Derived.Test.YtlaeoahhfalkiaaGreatDoorRows
import GoSem.ClaimSeven
namespace Go.Proofs.YtlaeoahhfalkiaaGreatDoor
namespace Rows

/-- THE TIED CARD OF 'cloakroomlaw27.HouseOrder'. -/
def houseOrderCard : Claim7 := { stood := { row := houseOrderRow, standIns := [], harness := (true, "6575e27bc65bffb2835efbcc9520353dcc8f323a8ee0b75842d56dc8f0ec1e10"), looks := false }, kinds := [], alts := [], laidByText := true, laidKinds := [.data, .data], laidTests := true, laidLooks := .later }
def HouseOrderCardSaid : Prop := Claim7.holds Tryz.pinned (.plain (OpenSpec.ofChange houseOrderSpec)) houseOrderCard

/-- THE TIED CARD OF 'cloakroomlaw27.HouseRooms'. -/
def houseRoomsCard : Claim7 := { stood := { row := houseRoomsRow, standIns := [], harness := (true, "6575e27bc65bffb2835efbcc9520353dcc8f323a8ee0b75842d56dc8f0ec1e10"), looks := false }, kinds := [], alts := [], laidByText := true, laidKinds := [.data, .data], laidTests := true, laidLooks := .later }
def HouseRoomsCardSaid : Prop := Claim7.holds Tryz.pinned (.plain (OpenSpec.ofChange houseRoomsSpec)) houseRoomsCard

/-- THE TIED CARD OF 'cloakroomlaw27.HouseCopy'. -/
def houseCopyCard : Claim7 := { stood := { row := houseCopyRow, standIns := [], harness := (true, "6575e27bc65bffb2835efbcc9520353dcc8f323a8ee0b75842d56dc8f0ec1e10"), looks := false }, kinds := [], alts := [], laidByText := true, laidKinds := [.data, .data], laidTests := true, laidLooks := .later }
def HouseCopyCardSaid : Prop := Claim7.holds Tryz.pinned (.plain (OpenSpec.ofChange houseCopySpec)) houseCopyCard

/-- THE SECOND FORM's CARD OF 'cloakroomlaw27.HouseOrder'. -/
def houseOrderUptoCard : Claim7 := { stood := { row := houseOrderUptoRow, standIns := [], harness := (true, "6575e27bc65bffb2835efbcc9520353dcc8f323a8ee0b75842d56dc8f0ec1e10"), looks := false }, kinds := [], alts := [], laidByText := true, laidKinds := [.data, .data], laidTests := true, laidLooks := .later }
def HouseOrderUptoCardSaid : Prop := Claim7.holds Tryz.pinned (.plain (OpenSpec.upto houseOrderSpec)) houseOrderUptoCard

/-- THE SECOND FORM's CARD OF 'cloakroomlaw27.HouseRooms'. -/
def houseRoomsUptoCard : Claim7 := { stood := { row := houseRoomsUptoRow, standIns := [], harness := (true, "6575e27bc65bffb2835efbcc9520353dcc8f323a8ee0b75842d56dc8f0ec1e10"), looks := false }, kinds := [], alts := [], laidByText := true, laidKinds := [.data, .data], laidTests := true, laidLooks := .later }
def HouseRoomsUptoCardSaid : Prop := Claim7.holds Tryz.pinned (.plain (OpenSpec.upto houseRoomsSpec)) houseRoomsUptoCard

/-- THE SECOND FORM's CARD OF 'cloakroomlaw27.HouseCopy'. -/
def houseCopyUptoCard : Claim7 := { stood := { row := houseCopyUptoRow, standIns := [], harness := (true, "6575e27bc65bffb2835efbcc9520353dcc8f323a8ee0b75842d56dc8f0ec1e10"), looks := false }, kinds := [], alts := [], laidByText := true, laidKinds := [.data, .data], laidTests := true, laidLooks := .later }
def HouseCopyUptoCardSaid : Prop := Claim7.holds Tryz.pinned (.plain (OpenSpec.upto houseCopySpec)) houseCopyUptoCard
end Rows
end Go.Proofs.YtlaeoahhfalkiaaGreatDoor
