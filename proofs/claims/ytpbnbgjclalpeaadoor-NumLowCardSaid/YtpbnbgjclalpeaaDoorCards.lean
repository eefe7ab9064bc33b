/-
  DERIVED. GIVEN WITH THE SEED: THE CARDS: each row of YtpbnbgjclalpeaaDoorRows.lean that lists a variable, with what it lists TIED to the program's text (the seventh form; the later family's looks); each row that meets fmt, with fmt's text TOLD by the authors' own Lean function (tested against real Go, not proved from fmt's source: count such statements apart). THE CARD IS WHAT COUNTS. Prove the row's statement (the work); the ties are given (YtpbnbgjclalpeaaDoorTie.lean); close each card by the builder's one call (the guide's Derived/Test/ToyasCard.lean, 'card_holds'). Laid BY PROGRAM, IN A SANDBOX (cutbox-door.mjs). By AI agents, Wed Nov 11 2026. No macro, syntax, notation, axiom, sorry.
-/
import Derived.Test.YtpbnbgjclalpeaaDoorRows
import GoSem.ClaimSeven
namespace Go.Proofs.YtpbnbgjclalpeaaDoor
namespace Rows

/-- THE TIED CARD OF 'cloakroomlaw13.NumOnes'. -/
def numOnesCard : Claim7 := { stood := { row := numOnesRow, standIns := [], harness := (true, "7e26454c4317a6915da812efdc9ef30a56d4813bb2aecff2e5ed57d001e1fd7a"), looks := false }, kinds := [], alts := [], laidByText := true, laidKinds := [.data, .data], laidTests := true, laidLooks := .later }
def NumOnesCardSaid : Prop := Claim7.holds Tryd.pinned (.plain (OpenSpec.ofChange numOnesSpec)) numOnesCard

/-- THE TIED CARD OF 'cloakroomlaw13.NumTwos'. -/
def numTwosCard : Claim7 := { stood := { row := numTwosRow, standIns := [], harness := (true, "7e26454c4317a6915da812efdc9ef30a56d4813bb2aecff2e5ed57d001e1fd7a"), looks := false }, kinds := [], alts := [], laidByText := true, laidKinds := [.data, .data], laidTests := true, laidLooks := .later }
def NumTwosCardSaid : Prop := Claim7.holds Tryd.pinned (.plain (OpenSpec.ofChange numTwosSpec)) numTwosCard

/-- THE TIED CARD OF 'cloakroomlaw13.NumSums'. -/
def numSumsCard : Claim7 := { stood := { row := numSumsRow, standIns := [], harness := (true, "7e26454c4317a6915da812efdc9ef30a56d4813bb2aecff2e5ed57d001e1fd7a"), looks := false }, kinds := [], alts := [], laidByText := true, laidKinds := [.data, .data], laidTests := true, laidLooks := .later }
def NumSumsCardSaid : Prop := Claim7.holds Tryd.pinned (.plain (OpenSpec.ofChange numSumsSpec)) numSumsCard

/-- THE TIED CARD OF 'cloakroomlaw13.NumDivides'. -/
def numDividesCard : Claim7 := { stood := { row := numDividesRow, standIns := [], harness := (true, "7e26454c4317a6915da812efdc9ef30a56d4813bb2aecff2e5ed57d001e1fd7a"), looks := false }, kinds := [], alts := [], laidByText := true, laidKinds := [.data, .data], laidTests := true, laidLooks := .later }
def NumDividesCardSaid : Prop := Claim7.holds Tryd.pinned (.plain (OpenSpec.ofChange numDividesSpec)) numDividesCard

/-- THE TIED CARD OF 'cloakroomlaw13.NumShifts'. -/
def numShiftsCard : Claim7 := { stood := { row := numShiftsRow, standIns := [], harness := (true, "7e26454c4317a6915da812efdc9ef30a56d4813bb2aecff2e5ed57d001e1fd7a"), looks := false }, kinds := [], alts := [], laidByText := true, laidKinds := [.data, .data], laidTests := true, laidLooks := .later }
def NumShiftsCardSaid : Prop := Claim7.holds Tryd.pinned (.plain (OpenSpec.ofChange numShiftsSpec)) numShiftsCard

/-- THE TIED CARD OF 'cloakroomlaw13.NumCompares'. -/
def numComparesCard : Claim7 := { stood := { row := numComparesRow, standIns := [], harness := (true, "7e26454c4317a6915da812efdc9ef30a56d4813bb2aecff2e5ed57d001e1fd7a"), looks := false }, kinds := [], alts := [], laidByText := true, laidKinds := [.data, .data], laidTests := true, laidLooks := .later }
def NumComparesCardSaid : Prop := Claim7.holds Tryd.pinned (.plain (OpenSpec.ofChange numComparesSpec)) numComparesCard

/-- THE TIED CARD OF 'cloakroomlaw13.NumBits'. -/
def numBitsCard : Claim7 := { stood := { row := numBitsRow, standIns := [], harness := (true, "7e26454c4317a6915da812efdc9ef30a56d4813bb2aecff2e5ed57d001e1fd7a"), looks := false }, kinds := [], alts := [], laidByText := true, laidKinds := [.data, .data], laidTests := true, laidLooks := .later }
def NumBitsCardSaid : Prop := Claim7.holds Tryd.pinned (.plain (OpenSpec.ofChange numBitsSpec)) numBitsCard

/-- THE TIED CARD OF 'cloakroomlaw13.NumForms'. -/
def numFormsCard : Claim7 := { stood := { row := numFormsRow, standIns := [], harness := (true, "7e26454c4317a6915da812efdc9ef30a56d4813bb2aecff2e5ed57d001e1fd7a"), looks := false }, kinds := [], alts := [], laidByText := true, laidKinds := [.data, .data], laidTests := true, laidLooks := .later }
def NumFormsCardSaid : Prop := Claim7.holds Tryd.pinned (.plain (OpenSpec.ofChange numFormsSpec)) numFormsCard

/-- THE TIED CARD OF 'cloakroomlaw13.NumLow'. -/
def numLowCard : Claim7 := { stood := { row := numLowRow, standIns := [], harness := (true, "7e26454c4317a6915da812efdc9ef30a56d4813bb2aecff2e5ed57d001e1fd7a"), looks := false }, kinds := [], alts := [], laidByText := true, laidKinds := [.data, .data], laidTests := true, laidLooks := .later }
def NumLowCardSaid : Prop := Claim7.holds Tryd.pinned (.plain (OpenSpec.ofChange numLowSpec)) numLowCard

/-- THE SECOND FORM's CARD OF 'cloakroomlaw13.NumOnes'. -/
def numOnesUptoCard : Claim7 := { stood := { row := numOnesUptoRow, standIns := [], harness := (true, "7e26454c4317a6915da812efdc9ef30a56d4813bb2aecff2e5ed57d001e1fd7a"), looks := false }, kinds := [], alts := [], laidByText := true, laidKinds := [.data, .data], laidTests := true, laidLooks := .later }
def NumOnesUptoCardSaid : Prop := Claim7.holds Tryd.pinned (.plain (OpenSpec.upto numOnesSpec)) numOnesUptoCard

/-- THE SECOND FORM's CARD OF 'cloakroomlaw13.NumTwos'. -/
def numTwosUptoCard : Claim7 := { stood := { row := numTwosUptoRow, standIns := [], harness := (true, "7e26454c4317a6915da812efdc9ef30a56d4813bb2aecff2e5ed57d001e1fd7a"), looks := false }, kinds := [], alts := [], laidByText := true, laidKinds := [.data, .data], laidTests := true, laidLooks := .later }
def NumTwosUptoCardSaid : Prop := Claim7.holds Tryd.pinned (.plain (OpenSpec.upto numTwosSpec)) numTwosUptoCard

/-- THE SECOND FORM's CARD OF 'cloakroomlaw13.NumSums'. -/
def numSumsUptoCard : Claim7 := { stood := { row := numSumsUptoRow, standIns := [], harness := (true, "7e26454c4317a6915da812efdc9ef30a56d4813bb2aecff2e5ed57d001e1fd7a"), looks := false }, kinds := [], alts := [], laidByText := true, laidKinds := [.data, .data], laidTests := true, laidLooks := .later }
def NumSumsUptoCardSaid : Prop := Claim7.holds Tryd.pinned (.plain (OpenSpec.upto numSumsSpec)) numSumsUptoCard

/-- THE SECOND FORM's CARD OF 'cloakroomlaw13.NumDivides'. -/
def numDividesUptoCard : Claim7 := { stood := { row := numDividesUptoRow, standIns := [], harness := (true, "7e26454c4317a6915da812efdc9ef30a56d4813bb2aecff2e5ed57d001e1fd7a"), looks := false }, kinds := [], alts := [], laidByText := true, laidKinds := [.data, .data], laidTests := true, laidLooks := .later }
def NumDividesUptoCardSaid : Prop := Claim7.holds Tryd.pinned (.plain (OpenSpec.upto numDividesSpec)) numDividesUptoCard

/-- THE SECOND FORM's CARD OF 'cloakroomlaw13.NumShifts'. -/
def numShiftsUptoCard : Claim7 := { stood := { row := numShiftsUptoRow, standIns := [], harness := (true, "7e26454c4317a6915da812efdc9ef30a56d4813bb2aecff2e5ed57d001e1fd7a"), looks := false }, kinds := [], alts := [], laidByText := true, laidKinds := [.data, .data], laidTests := true, laidLooks := .later }
def NumShiftsUptoCardSaid : Prop := Claim7.holds Tryd.pinned (.plain (OpenSpec.upto numShiftsSpec)) numShiftsUptoCard

/-- THE SECOND FORM's CARD OF 'cloakroomlaw13.NumCompares'. -/
def numComparesUptoCard : Claim7 := { stood := { row := numComparesUptoRow, standIns := [], harness := (true, "7e26454c4317a6915da812efdc9ef30a56d4813bb2aecff2e5ed57d001e1fd7a"), looks := false }, kinds := [], alts := [], laidByText := true, laidKinds := [.data, .data], laidTests := true, laidLooks := .later }
def NumComparesUptoCardSaid : Prop := Claim7.holds Tryd.pinned (.plain (OpenSpec.upto numComparesSpec)) numComparesUptoCard

/-- THE SECOND FORM's CARD OF 'cloakroomlaw13.NumBits'. -/
def numBitsUptoCard : Claim7 := { stood := { row := numBitsUptoRow, standIns := [], harness := (true, "7e26454c4317a6915da812efdc9ef30a56d4813bb2aecff2e5ed57d001e1fd7a"), looks := false }, kinds := [], alts := [], laidByText := true, laidKinds := [.data, .data], laidTests := true, laidLooks := .later }
def NumBitsUptoCardSaid : Prop := Claim7.holds Tryd.pinned (.plain (OpenSpec.upto numBitsSpec)) numBitsUptoCard

/-- THE SECOND FORM's CARD OF 'cloakroomlaw13.NumForms'. -/
def numFormsUptoCard : Claim7 := { stood := { row := numFormsUptoRow, standIns := [], harness := (true, "7e26454c4317a6915da812efdc9ef30a56d4813bb2aecff2e5ed57d001e1fd7a"), looks := false }, kinds := [], alts := [], laidByText := true, laidKinds := [.data, .data], laidTests := true, laidLooks := .later }
def NumFormsUptoCardSaid : Prop := Claim7.holds Tryd.pinned (.plain (OpenSpec.upto numFormsSpec)) numFormsUptoCard

/-- THE SECOND FORM's CARD OF 'cloakroomlaw13.NumLow'. -/
def numLowUptoCard : Claim7 := { stood := { row := numLowUptoRow, standIns := [], harness := (true, "7e26454c4317a6915da812efdc9ef30a56d4813bb2aecff2e5ed57d001e1fd7a"), looks := false }, kinds := [], alts := [], laidByText := true, laidKinds := [.data, .data], laidTests := true, laidLooks := .later }
def NumLowUptoCardSaid : Prop := Claim7.holds Tryd.pinned (.plain (OpenSpec.upto numLowSpec)) numLowUptoCard
end Rows
end Go.Proofs.YtpbnbgjclalpeaaDoor
