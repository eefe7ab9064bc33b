/-
  NARROWER THAN 'FOR EVERY INPUT', by the rows' own cells (each row's printed sentence says how): CallNone: laid · CallArgs: laid · HouseTaken: laid · HouseNone: laid · HouseStops: laid · HouseCopy: laid · SliceNone: laid · StepNumbers: laid · LinkStarts: laid · CallEnds: laid.
  DERIVED. THE GIVEN ROWS OF THIS SEAT. 10 by the template 'for every input the law returns true; each argument reads behind the call as it read before'; 0 by the template 'total and deterministic' (their statements: YtkmlhhiialbfgaaGreatDoorTotals.lean).
  GIVEN WITH THE SEED: the statements are not yours to turn. If you find one false, say at which input.
  Laid BY PROGRAM, IN A SANDBOX (cutbox-rows.mjs): the forced cells as the released guide's own fill.sh prints them over the translation 6935d35d3c7d2aa7… (all of the seat's roots in one cut). By AI agents, Wed Nov 11 2026. No macro, syntax, notation, axiom, sorry.
-/
import Derived.Test.YtkmlhhiialbfgaaGreatDoorChecked
import GoSem.Claim
import GoSem.ClaimJoined
import GoSem.ClaimMapViews
import Derived.JoinedTies
import Derived.KernelRfl
namespace Go.Proofs.YtkmlhhiialbfgaaGreatDoor
/- THE CELL 'sum', in the pinned program and in every row, IS THE sha256 OF THE DUMP (.gsa) THAT YtkmlhhiialbfgaaGreatDoorProg.lean LOADS. Nothing in Lean hashes anything: it is a label: what it is worth is what the hold of that sum in a sandbox is worth. -/
noncomputable def Tryz.pinned : Pinned := { name := "ytkmlhhiialbfgaagreatdoor", sum := "6935d35d3c7d2aa7634d3ea3a1e5b383d573fe475120e5e5e6db28428b95c500", checked := Tryz.checked }
namespace Rows
def none {H : Type} : Left H := { results := [], args := [] }

/- WHAT THE LISTED PACKAGE-LEVEL VARIABLES READ AS WHEN THE CALL BEGINS. Each datum BY PROGRAM (the guide's laid-datum.mjs) off the statement by which the dump's own 'gosem.cut.vars' lays the variable. In a bare row this is a premise. The card (YtkmlhhiialbfgaaGreatDoorCards.lean) ties it to the program's text. -/
def laid_math_bits_deBruijn32tab {H : Type} : DataW H := .agg [.lit (.int .u8 0), .lit (.int .u8 1), .lit (.int .u8 28), .lit (.int .u8 2), .lit (.int .u8 29), .lit (.int .u8 14), .lit (.int .u8 24), .lit (.int .u8 3), .lit (.int .u8 30), .lit (.int .u8 22), .lit (.int .u8 20), .lit (.int .u8 15), .lit (.int .u8 25), .lit (.int .u8 17), .lit (.int .u8 4), .lit (.int .u8 8), .lit (.int .u8 31), .lit (.int .u8 27), .lit (.int .u8 13), .lit (.int .u8 23), .lit (.int .u8 21), .lit (.int .u8 19), .lit (.int .u8 16), .lit (.int .u8 7), .lit (.int .u8 26), .lit (.int .u8 12), .lit (.int .u8 18), .lit (.int .u8 6), .lit (.int .u8 11), .lit (.int .u8 5), .lit (.int .u8 10), .lit (.int .u8 9)]
def laid_math_bits_deBruijn64tab {H : Type} : DataW H := .agg [.lit (.int .u8 0), .lit (.int .u8 1), .lit (.int .u8 56), .lit (.int .u8 2), .lit (.int .u8 57), .lit (.int .u8 49), .lit (.int .u8 28), .lit (.int .u8 3), .lit (.int .u8 61), .lit (.int .u8 58), .lit (.int .u8 42), .lit (.int .u8 50), .lit (.int .u8 38), .lit (.int .u8 29), .lit (.int .u8 17), .lit (.int .u8 4), .lit (.int .u8 62), .lit (.int .u8 47), .lit (.int .u8 59), .lit (.int .u8 36), .lit (.int .u8 45), .lit (.int .u8 43), .lit (.int .u8 51), .lit (.int .u8 22), .lit (.int .u8 53), .lit (.int .u8 39), .lit (.int .u8 33), .lit (.int .u8 30), .lit (.int .u8 24), .lit (.int .u8 18), .lit (.int .u8 12), .lit (.int .u8 5), .lit (.int .u8 63), .lit (.int .u8 55), .lit (.int .u8 48), .lit (.int .u8 27), .lit (.int .u8 60), .lit (.int .u8 41), .lit (.int .u8 37), .lit (.int .u8 16), .lit (.int .u8 46), .lit (.int .u8 35), .lit (.int .u8 44), .lit (.int .u8 21), .lit (.int .u8 52), .lit (.int .u8 32), .lit (.int .u8 23), .lit (.int .u8 11), .lit (.int .u8 54), .lit (.int .u8 26), .lit (.int .u8 40), .lit (.int .u8 15), .lit (.int .u8 34), .lit (.int .u8 20), .lit (.int .u8 31), .lit (.int .u8 10), .lit (.int .u8 25), .lit (.int .u8 14), .lit (.int .u8 19), .lit (.int .u8 9), .lit (.int .u8 13), .lit (.int .u8 8), .lit (.int .u8 7), .lit (.int .u8 6)]

/-- 'cloakroomlaw21.CallNone': WHATEVER THE INPUT: true; the input reads as it did. -/
def callNoneSpec : ChangeSpec := { name := "callNone", fn := fun _ => fun
  | [] => { results := [.lit (.bool true)], args := [] }
  | _ => none }
def callNoneRow : OpenClaim := { program := "ytkmlhhiialbfgaagreatdoor", sum := "6935d35d3c7d2aa7634d3ea3a1e5b383d573fe475120e5e5e6db28428b95c500", func := "cloakroom/cloakroomlaw21.CallNone", spec := "callNone", unfollowed := true, recurses := true, named := ["math/bits.deBruijn32tab", "math/bits.deBruijn64tab"], apart := false, laid := [("math/bits.deBruijn32tab", laid_math_bits_deBruijn32tab), ("math/bits.deBruijn64tab", laid_math_bits_deBruijn64tab)] }
def CallNoneSaid : Prop := callNoneRow.holds Tryz.pinned (OpenSpec.ofChange callNoneSpec)

/-- ITS FALSE NEIGHBOUR: 'it returns false'. Refute it at one input. -/
def callNoneWrong : ChangeSpec := { name := "callNone", fn := fun _ => fun
  | [] => { results := [.lit (.bool false)], args := [] }
  | _ => none }
def CallNoneWrongFalsely : Prop := callNoneRow.holds Tryz.pinned (OpenSpec.ofChange callNoneWrong)

/-- 'cloakroomlaw21.CallArgs': WHATEVER THE INPUT: true; the input reads as it did. -/
def callArgsSpec : ChangeSpec := { name := "callArgs", fn := fun _ => fun
  | [d1, d2] => { results := [.lit (.bool true)], args := [d1, d2] }
  | _ => none }
def callArgsRow : OpenClaim := { program := "ytkmlhhiialbfgaagreatdoor", sum := "6935d35d3c7d2aa7634d3ea3a1e5b383d573fe475120e5e5e6db28428b95c500", func := "cloakroom/cloakroomlaw21.CallArgs", spec := "callArgs", unfollowed := true, recurses := true, named := ["math/bits.deBruijn32tab", "math/bits.deBruijn64tab"], apart := false, laid := [("math/bits.deBruijn32tab", laid_math_bits_deBruijn32tab), ("math/bits.deBruijn64tab", laid_math_bits_deBruijn64tab)] }
def CallArgsSaid : Prop := callArgsRow.holds Tryz.pinned (OpenSpec.ofChange callArgsSpec)

/-- ITS FALSE NEIGHBOUR: 'it returns false'. Refute it at one input. -/
def callArgsWrong : ChangeSpec := { name := "callArgs", fn := fun _ => fun
  | [d1, d2] => { results := [.lit (.bool false)], args := [d1, d2] }
  | _ => none }
def CallArgsWrongFalsely : Prop := callArgsRow.holds Tryz.pinned (OpenSpec.ofChange callArgsWrong)

/-- 'cloakroomlaw27.HouseTaken': WHATEVER THE INPUT: true; the input reads as it did. -/
def houseTakenSpec : ChangeSpec := { name := "houseTaken", fn := fun _ => fun
  | [] => { results := [.lit (.bool true)], args := [] }
  | _ => none }
def houseTakenRow : OpenClaim := { program := "ytkmlhhiialbfgaagreatdoor", sum := "6935d35d3c7d2aa7634d3ea3a1e5b383d573fe475120e5e5e6db28428b95c500", func := "cloakroom/cloakroomlaw27.HouseTaken", spec := "houseTaken", unfollowed := true, recurses := true, named := ["math/bits.deBruijn32tab", "math/bits.deBruijn64tab"], apart := false, laid := [("math/bits.deBruijn32tab", laid_math_bits_deBruijn32tab), ("math/bits.deBruijn64tab", laid_math_bits_deBruijn64tab)] }
def HouseTakenSaid : Prop := houseTakenRow.holds Tryz.pinned (OpenSpec.ofChange houseTakenSpec)

/-- ITS FALSE NEIGHBOUR: 'it returns false'. Refute it at one input. -/
def houseTakenWrong : ChangeSpec := { name := "houseTaken", fn := fun _ => fun
  | [] => { results := [.lit (.bool false)], args := [] }
  | _ => none }
def HouseTakenWrongFalsely : Prop := houseTakenRow.holds Tryz.pinned (OpenSpec.ofChange houseTakenWrong)

/-- 'cloakroomlaw27.HouseNone': WHATEVER THE INPUT: true; the input reads as it did. -/
def houseNoneSpec : ChangeSpec := { name := "houseNone", fn := fun _ => fun
  | [] => { results := [.lit (.bool true)], args := [] }
  | _ => none }
def houseNoneRow : OpenClaim := { program := "ytkmlhhiialbfgaagreatdoor", sum := "6935d35d3c7d2aa7634d3ea3a1e5b383d573fe475120e5e5e6db28428b95c500", func := "cloakroom/cloakroomlaw27.HouseNone", spec := "houseNone", unfollowed := true, recurses := true, named := ["math/bits.deBruijn32tab", "math/bits.deBruijn64tab"], apart := false, laid := [("math/bits.deBruijn32tab", laid_math_bits_deBruijn32tab), ("math/bits.deBruijn64tab", laid_math_bits_deBruijn64tab)] }
def HouseNoneSaid : Prop := houseNoneRow.holds Tryz.pinned (OpenSpec.ofChange houseNoneSpec)

/-- ITS FALSE NEIGHBOUR: 'it returns false'. Refute it at one input. -/
def houseNoneWrong : ChangeSpec := { name := "houseNone", fn := fun _ => fun
  | [] => { results := [.lit (.bool false)], args := [] }
  | _ => none }
def HouseNoneWrongFalsely : Prop := houseNoneRow.holds Tryz.pinned (OpenSpec.ofChange houseNoneWrong)

/-- 'cloakroomlaw27.HouseStops': WHATEVER THE INPUT: true; the input reads as it did. -/
def houseStopsSpec : ChangeSpec := { name := "houseStops", fn := fun _ => fun
  | [d1, d2, d3, d4] => { results := [.lit (.bool true)], args := [d1, d2, d3, d4] }
  | _ => none }
def houseStopsRow : OpenClaim := { program := "ytkmlhhiialbfgaagreatdoor", sum := "6935d35d3c7d2aa7634d3ea3a1e5b383d573fe475120e5e5e6db28428b95c500", func := "cloakroom/cloakroomlaw27.HouseStops", spec := "houseStops", unfollowed := true, recurses := true, named := ["math/bits.deBruijn32tab", "math/bits.deBruijn64tab"], apart := false, laid := [("math/bits.deBruijn32tab", laid_math_bits_deBruijn32tab), ("math/bits.deBruijn64tab", laid_math_bits_deBruijn64tab)] }
def HouseStopsSaid : Prop := houseStopsRow.holds Tryz.pinned (OpenSpec.ofChange houseStopsSpec)

/-- ITS FALSE NEIGHBOUR: 'it returns false'. Refute it at one input. -/
def houseStopsWrong : ChangeSpec := { name := "houseStops", fn := fun _ => fun
  | [d1, d2, d3, d4] => { results := [.lit (.bool false)], args := [d1, d2, d3, d4] }
  | _ => none }
def HouseStopsWrongFalsely : Prop := houseStopsRow.holds Tryz.pinned (OpenSpec.ofChange houseStopsWrong)

/-- 'cloakroomlaw27.HouseCopy': WHATEVER THE INPUT: true; the input reads as it did. -/
def houseCopySpec : ChangeSpec := { name := "houseCopy", fn := fun _ => fun
  | [d] => { results := [.lit (.bool true)], args := [d] }
  | _ => none }
def houseCopyRow : OpenClaim := { program := "ytkmlhhiialbfgaagreatdoor", sum := "6935d35d3c7d2aa7634d3ea3a1e5b383d573fe475120e5e5e6db28428b95c500", func := "cloakroom/cloakroomlaw27.HouseCopy", spec := "houseCopy", unfollowed := true, recurses := true, named := ["math/bits.deBruijn32tab", "math/bits.deBruijn64tab"], apart := false, laid := [("math/bits.deBruijn32tab", laid_math_bits_deBruijn32tab), ("math/bits.deBruijn64tab", laid_math_bits_deBruijn64tab)] }
def HouseCopySaid : Prop := houseCopyRow.holds Tryz.pinned (OpenSpec.ofChange houseCopySpec)

/-- ITS FALSE NEIGHBOUR: 'it returns false'. Refute it at one input. -/
def houseCopyWrong : ChangeSpec := { name := "houseCopy", fn := fun _ => fun
  | [d] => { results := [.lit (.bool false)], args := [d] }
  | _ => none }
def HouseCopyWrongFalsely : Prop := houseCopyRow.holds Tryz.pinned (OpenSpec.ofChange houseCopyWrong)

/-- 'cloakroomlaw19.SliceNone': WHATEVER THE INPUT: true; the input reads as it did. -/
def sliceNoneSpec : ChangeSpec := { name := "sliceNone", fn := fun _ => fun
  | [d1, d2] => { results := [.lit (.bool true)], args := [d1, d2] }
  | _ => none }
def sliceNoneRow : OpenClaim := { program := "ytkmlhhiialbfgaagreatdoor", sum := "6935d35d3c7d2aa7634d3ea3a1e5b383d573fe475120e5e5e6db28428b95c500", func := "cloakroom/cloakroomlaw19.SliceNone", spec := "sliceNone", named := ["math/bits.deBruijn32tab", "math/bits.deBruijn64tab"], apart := false, laid := [("math/bits.deBruijn32tab", laid_math_bits_deBruijn32tab), ("math/bits.deBruijn64tab", laid_math_bits_deBruijn64tab)] }
def SliceNoneSaid : Prop := sliceNoneRow.holds Tryz.pinned (OpenSpec.ofChange sliceNoneSpec)

/-- ITS FALSE NEIGHBOUR: 'it returns false'. Refute it at one input. -/
def sliceNoneWrong : ChangeSpec := { name := "sliceNone", fn := fun _ => fun
  | [d1, d2] => { results := [.lit (.bool false)], args := [d1, d2] }
  | _ => none }
def SliceNoneWrongFalsely : Prop := sliceNoneRow.holds Tryz.pinned (OpenSpec.ofChange sliceNoneWrong)

/-- 'cloakroomlaw18.StepNumbers': WHATEVER THE INPUT: true; the input reads as it did. -/
def stepNumbersSpec : ChangeSpec := { name := "stepNumbers", fn := fun _ => fun
  | [d1, d2, d3] => { results := [.lit (.bool true)], args := [d1, d2, d3] }
  | _ => none }
def stepNumbersRow : OpenClaim := { program := "ytkmlhhiialbfgaagreatdoor", sum := "6935d35d3c7d2aa7634d3ea3a1e5b383d573fe475120e5e5e6db28428b95c500", func := "cloakroom/cloakroomlaw18.StepNumbers", spec := "stepNumbers", named := ["math/bits.deBruijn32tab", "math/bits.deBruijn64tab"], apart := false, laid := [("math/bits.deBruijn32tab", laid_math_bits_deBruijn32tab), ("math/bits.deBruijn64tab", laid_math_bits_deBruijn64tab)] }
def StepNumbersSaid : Prop := stepNumbersRow.holds Tryz.pinned (OpenSpec.ofChange stepNumbersSpec)

/-- ITS FALSE NEIGHBOUR: 'it returns false'. Refute it at one input. -/
def stepNumbersWrong : ChangeSpec := { name := "stepNumbers", fn := fun _ => fun
  | [d1, d2, d3] => { results := [.lit (.bool false)], args := [d1, d2, d3] }
  | _ => none }
def StepNumbersWrongFalsely : Prop := stepNumbersRow.holds Tryz.pinned (OpenSpec.ofChange stepNumbersWrong)

/-- 'cloakroomlaw20.LinkStarts': WHATEVER THE INPUT: true; the input reads as it did. -/
def linkStartsSpec : ChangeSpec := { name := "linkStarts", fn := fun _ => fun
  | [d1, d2] => { results := [.lit (.bool true)], args := [d1, d2] }
  | _ => none }
def linkStartsRow : OpenClaim := { program := "ytkmlhhiialbfgaagreatdoor", sum := "6935d35d3c7d2aa7634d3ea3a1e5b383d573fe475120e5e5e6db28428b95c500", func := "cloakroom/cloakroomlaw20.LinkStarts", spec := "linkStarts", named := ["math/bits.deBruijn32tab", "math/bits.deBruijn64tab"], apart := false, laid := [("math/bits.deBruijn32tab", laid_math_bits_deBruijn32tab), ("math/bits.deBruijn64tab", laid_math_bits_deBruijn64tab)] }
def LinkStartsSaid : Prop := linkStartsRow.holds Tryz.pinned (OpenSpec.ofChange linkStartsSpec)

/-- ITS FALSE NEIGHBOUR: 'it returns false'. Refute it at one input. -/
def linkStartsWrong : ChangeSpec := { name := "linkStarts", fn := fun _ => fun
  | [d1, d2] => { results := [.lit (.bool false)], args := [d1, d2] }
  | _ => none }
def LinkStartsWrongFalsely : Prop := linkStartsRow.holds Tryz.pinned (OpenSpec.ofChange linkStartsWrong)

/-- 'cloakroomlaw21.CallEnds': WHATEVER THE INPUT: true; the input reads as it did. -/
def callEndsSpec : ChangeSpec := { name := "callEnds", fn := fun _ => fun
  | [d1, d2] => { results := [.lit (.bool true)], args := [d1, d2] }
  | _ => none }
def callEndsRow : OpenClaim := { program := "ytkmlhhiialbfgaagreatdoor", sum := "6935d35d3c7d2aa7634d3ea3a1e5b383d573fe475120e5e5e6db28428b95c500", func := "cloakroom/cloakroomlaw21.CallEnds", spec := "callEnds", unfollowed := true, recurses := true, named := ["math/bits.deBruijn32tab", "math/bits.deBruijn64tab"], apart := false, laid := [("math/bits.deBruijn32tab", laid_math_bits_deBruijn32tab), ("math/bits.deBruijn64tab", laid_math_bits_deBruijn64tab)] }
def CallEndsSaid : Prop := callEndsRow.holds Tryz.pinned (OpenSpec.ofChange callEndsSpec)

/-- ITS FALSE NEIGHBOUR: 'it returns false'. Refute it at one input. -/
def callEndsWrong : ChangeSpec := { name := "callEnds", fn := fun _ => fun
  | [d1, d2] => { results := [.lit (.bool false)], args := [d1, d2] }
  | _ => none }
def CallEndsWrongFalsely : Prop := callEndsRow.holds Tryz.pinned (OpenSpec.ofChange callEndsWrong)

/- THE SECOND FORM. 'bulk': how many values and letters a reading holds, each counted each time it is reached (what is shared counts as often as it is met; a slice's spare places count too). A statement '..UptoSaid' is the law's where the arguments, and the package variables that the reading takes, are together of bulk at most 1048576: NARROWER than '..Said'. Prove '..Said' where nothing that the law and all that it calls make is longer than what came in: it says more and counts as full. Else prove '..UptoSaid'. A law counts once. -/
mutual
def uptoBulk {H : Type} : DataW H → Nat
  | .lit (.string bytes) => bytes.length + 1
  | .lit _ => 1
  | .nil => 1
  | .ptr d => uptoBulk d + 1
  | .slice elems spare => uptoBulkAll elems + uptoBulkAll spare + 1
  | .agg parts => uptoBulkAll parts + 1
  | .iface _ d => uptoBulk d + 1
  | .map entries => uptoBulkEntries entries + 1
  | .held _ => 1
def uptoBulkAll {H : Type} : List (DataW H) → Nat
  | [] => 0
  | d :: r => uptoBulk d + uptoBulkAll r
def uptoBulkEntries {H : Type} : List (Lit × DataW H) → Nat
  | [] => 0
  | x :: r => uptoBulkEntry x + uptoBulkEntries r
def uptoBulkEntry {H : Type} : Lit × DataW H → Nat
  | (.string bytes, d) => bytes.length + uptoBulk d + 1
  | (_, d) => uptoBulk d + 1
 end
def uptoSmall : (H : Type) → List (DataW H) → Bool := fun _ ds => decide (uptoBulkAll ds ≤ 1048576)
def OpenSpec.upto (s : _root_.Go.ChangeSpec) : _root_.Go.OpenSpec := { _root_.Go.OpenSpec.ofChange s with cond := some uptoSmall }

/-- 'cloakroomlaw21.CallNone', WHERE WHAT IT READS IS OF BULK AT MOST 1048576: true; the input reads as it did. -/
def callNoneUptoRow : OpenClaim := { program := "ytkmlhhiialbfgaagreatdoor", sum := "6935d35d3c7d2aa7634d3ea3a1e5b383d573fe475120e5e5e6db28428b95c500", func := "cloakroom/cloakroomlaw21.CallNone", spec := "callNone", unfollowed := true, recurses := true, named := ["math/bits.deBruijn32tab", "math/bits.deBruijn64tab"], apart := false, laid := [("math/bits.deBruijn32tab", laid_math_bits_deBruijn32tab), ("math/bits.deBruijn64tab", laid_math_bits_deBruijn64tab)], narrowed := true }
def CallNoneUptoSaid : Prop := callNoneUptoRow.holds Tryz.pinned (OpenSpec.upto callNoneSpec)

/-- 'cloakroomlaw21.CallArgs', WHERE WHAT IT READS IS OF BULK AT MOST 1048576: true; the input reads as it did. -/
def callArgsUptoRow : OpenClaim := { program := "ytkmlhhiialbfgaagreatdoor", sum := "6935d35d3c7d2aa7634d3ea3a1e5b383d573fe475120e5e5e6db28428b95c500", func := "cloakroom/cloakroomlaw21.CallArgs", spec := "callArgs", unfollowed := true, recurses := true, named := ["math/bits.deBruijn32tab", "math/bits.deBruijn64tab"], apart := false, laid := [("math/bits.deBruijn32tab", laid_math_bits_deBruijn32tab), ("math/bits.deBruijn64tab", laid_math_bits_deBruijn64tab)], narrowed := true }
def CallArgsUptoSaid : Prop := callArgsUptoRow.holds Tryz.pinned (OpenSpec.upto callArgsSpec)

/-- 'cloakroomlaw27.HouseTaken', WHERE WHAT IT READS IS OF BULK AT MOST 1048576: true; the input reads as it did. -/
def houseTakenUptoRow : OpenClaim := { program := "ytkmlhhiialbfgaagreatdoor", sum := "6935d35d3c7d2aa7634d3ea3a1e5b383d573fe475120e5e5e6db28428b95c500", func := "cloakroom/cloakroomlaw27.HouseTaken", spec := "houseTaken", unfollowed := true, recurses := true, named := ["math/bits.deBruijn32tab", "math/bits.deBruijn64tab"], apart := false, laid := [("math/bits.deBruijn32tab", laid_math_bits_deBruijn32tab), ("math/bits.deBruijn64tab", laid_math_bits_deBruijn64tab)], narrowed := true }
def HouseTakenUptoSaid : Prop := houseTakenUptoRow.holds Tryz.pinned (OpenSpec.upto houseTakenSpec)

/-- 'cloakroomlaw27.HouseNone', WHERE WHAT IT READS IS OF BULK AT MOST 1048576: true; the input reads as it did. -/
def houseNoneUptoRow : OpenClaim := { program := "ytkmlhhiialbfgaagreatdoor", sum := "6935d35d3c7d2aa7634d3ea3a1e5b383d573fe475120e5e5e6db28428b95c500", func := "cloakroom/cloakroomlaw27.HouseNone", spec := "houseNone", unfollowed := true, recurses := true, named := ["math/bits.deBruijn32tab", "math/bits.deBruijn64tab"], apart := false, laid := [("math/bits.deBruijn32tab", laid_math_bits_deBruijn32tab), ("math/bits.deBruijn64tab", laid_math_bits_deBruijn64tab)], narrowed := true }
def HouseNoneUptoSaid : Prop := houseNoneUptoRow.holds Tryz.pinned (OpenSpec.upto houseNoneSpec)

/-- 'cloakroomlaw27.HouseStops', WHERE WHAT IT READS IS OF BULK AT MOST 1048576: true; the input reads as it did. -/
def houseStopsUptoRow : OpenClaim := { program := "ytkmlhhiialbfgaagreatdoor", sum := "6935d35d3c7d2aa7634d3ea3a1e5b383d573fe475120e5e5e6db28428b95c500", func := "cloakroom/cloakroomlaw27.HouseStops", spec := "houseStops", unfollowed := true, recurses := true, named := ["math/bits.deBruijn32tab", "math/bits.deBruijn64tab"], apart := false, laid := [("math/bits.deBruijn32tab", laid_math_bits_deBruijn32tab), ("math/bits.deBruijn64tab", laid_math_bits_deBruijn64tab)], narrowed := true }
def HouseStopsUptoSaid : Prop := houseStopsUptoRow.holds Tryz.pinned (OpenSpec.upto houseStopsSpec)

/-- 'cloakroomlaw27.HouseCopy', WHERE WHAT IT READS IS OF BULK AT MOST 1048576: true; the input reads as it did. -/
def houseCopyUptoRow : OpenClaim := { program := "ytkmlhhiialbfgaagreatdoor", sum := "6935d35d3c7d2aa7634d3ea3a1e5b383d573fe475120e5e5e6db28428b95c500", func := "cloakroom/cloakroomlaw27.HouseCopy", spec := "houseCopy", unfollowed := true, recurses := true, named := ["math/bits.deBruijn32tab", "math/bits.deBruijn64tab"], apart := false, laid := [("math/bits.deBruijn32tab", laid_math_bits_deBruijn32tab), ("math/bits.deBruijn64tab", laid_math_bits_deBruijn64tab)], narrowed := true }
def HouseCopyUptoSaid : Prop := houseCopyUptoRow.holds Tryz.pinned (OpenSpec.upto houseCopySpec)

/-- 'cloakroomlaw19.SliceNone', WHERE WHAT IT READS IS OF BULK AT MOST 1048576: true; the input reads as it did. -/
def sliceNoneUptoRow : OpenClaim := { program := "ytkmlhhiialbfgaagreatdoor", sum := "6935d35d3c7d2aa7634d3ea3a1e5b383d573fe475120e5e5e6db28428b95c500", func := "cloakroom/cloakroomlaw19.SliceNone", spec := "sliceNone", named := ["math/bits.deBruijn32tab", "math/bits.deBruijn64tab"], apart := false, laid := [("math/bits.deBruijn32tab", laid_math_bits_deBruijn32tab), ("math/bits.deBruijn64tab", laid_math_bits_deBruijn64tab)], narrowed := true }
def SliceNoneUptoSaid : Prop := sliceNoneUptoRow.holds Tryz.pinned (OpenSpec.upto sliceNoneSpec)

/-- 'cloakroomlaw18.StepNumbers', WHERE WHAT IT READS IS OF BULK AT MOST 1048576: true; the input reads as it did. -/
def stepNumbersUptoRow : OpenClaim := { program := "ytkmlhhiialbfgaagreatdoor", sum := "6935d35d3c7d2aa7634d3ea3a1e5b383d573fe475120e5e5e6db28428b95c500", func := "cloakroom/cloakroomlaw18.StepNumbers", spec := "stepNumbers", named := ["math/bits.deBruijn32tab", "math/bits.deBruijn64tab"], apart := false, laid := [("math/bits.deBruijn32tab", laid_math_bits_deBruijn32tab), ("math/bits.deBruijn64tab", laid_math_bits_deBruijn64tab)], narrowed := true }
def StepNumbersUptoSaid : Prop := stepNumbersUptoRow.holds Tryz.pinned (OpenSpec.upto stepNumbersSpec)

/-- 'cloakroomlaw20.LinkStarts', WHERE WHAT IT READS IS OF BULK AT MOST 1048576: true; the input reads as it did. -/
def linkStartsUptoRow : OpenClaim := { program := "ytkmlhhiialbfgaagreatdoor", sum := "6935d35d3c7d2aa7634d3ea3a1e5b383d573fe475120e5e5e6db28428b95c500", func := "cloakroom/cloakroomlaw20.LinkStarts", spec := "linkStarts", named := ["math/bits.deBruijn32tab", "math/bits.deBruijn64tab"], apart := false, laid := [("math/bits.deBruijn32tab", laid_math_bits_deBruijn32tab), ("math/bits.deBruijn64tab", laid_math_bits_deBruijn64tab)], narrowed := true }
def LinkStartsUptoSaid : Prop := linkStartsUptoRow.holds Tryz.pinned (OpenSpec.upto linkStartsSpec)

/-- 'cloakroomlaw21.CallEnds', WHERE WHAT IT READS IS OF BULK AT MOST 1048576: true; the input reads as it did. -/
def callEndsUptoRow : OpenClaim := { program := "ytkmlhhiialbfgaagreatdoor", sum := "6935d35d3c7d2aa7634d3ea3a1e5b383d573fe475120e5e5e6db28428b95c500", func := "cloakroom/cloakroomlaw21.CallEnds", spec := "callEnds", unfollowed := true, recurses := true, named := ["math/bits.deBruijn32tab", "math/bits.deBruijn64tab"], apart := false, laid := [("math/bits.deBruijn32tab", laid_math_bits_deBruijn32tab), ("math/bits.deBruijn64tab", laid_math_bits_deBruijn64tab)], narrowed := true }
def CallEndsUptoSaid : Prop := callEndsUptoRow.holds Tryz.pinned (OpenSpec.upto callEndsSpec)

end Rows
end Go.Proofs.YtkmlhhiialbfgaaGreatDoor
