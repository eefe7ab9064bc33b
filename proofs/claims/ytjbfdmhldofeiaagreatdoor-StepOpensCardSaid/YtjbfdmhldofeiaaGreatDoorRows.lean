/-
  NARROWER THAN 'FOR EVERY INPUT', by the rows' own cells (each row's printed sentence says how): StepBlocks: laid · StepIfs: laid · StepTables: laid · StepCalls: laid · StepRefs: laid · StepMemory: laid · StepRoom: laid · StepLocals: laid · StepMulti: laid · StepInits: laid · StepOpens: laid · StepConverts: laid.
  DERIVED. THE GIVEN ROWS OF THIS SEAT. 12 by the template 'for every input the law returns true; each argument reads behind the call as it read before'; 0 by the template 'total and deterministic' (their statements: YtjbfdmhldofeiaaGreatDoorTotals.lean).
  GIVEN WITH THE SEED: the statements are not yours to turn. If you find one false, say at which input.
  Laid BY PROGRAM, IN A SANDBOX (cutbox-rows.mjs): the forced cells as the released guide's own fill.sh prints them over the translation 27534fe92006bd26… (all of the seat's roots in one cut). By AI agents, Wed Nov 11 2026. No macro, syntax, notation, axiom, sorry.
-/
import Derived.Test.YtjbfdmhldofeiaaGreatDoorChecked
import GoSem.Claim
import GoSem.ClaimJoined
import GoSem.ClaimMapViews
import Derived.JoinedTies
import Derived.KernelRfl
namespace Go.Proofs.YtjbfdmhldofeiaaGreatDoor
/- THE CELL 'sum', in the pinned program and in every row, IS THE sha256 OF THE DUMP (.gsa) THAT YtjbfdmhldofeiaaGreatDoorProg.lean LOADS. Nothing in Lean hashes anything: it is a label: what it is worth is what the hold of that sum in a sandbox is worth. -/
noncomputable def Tryz.pinned : Pinned := { name := "ytjbfdmhldofeiaagreatdoor", sum := "27534fe92006bd263d9174eadf67cc811e9e5fa42b92867028d4a11028229d78", checked := Tryz.checked }
namespace Rows
def none {H : Type} : Left H := { results := [], args := [] }

/- WHAT THE LISTED PACKAGE-LEVEL VARIABLES READ AS WHEN THE CALL BEGINS. Each datum BY PROGRAM (the guide's laid-datum.mjs) off the statement by which the dump's own 'gosem.cut.vars' lays the variable. In a bare row this is a premise. The card (YtjbfdmhldofeiaaGreatDoorCards.lean) ties it to the program's text. -/
def laid_math_bits_deBruijn32tab {H : Type} : DataW H := .agg [.lit (.int .u8 0), .lit (.int .u8 1), .lit (.int .u8 28), .lit (.int .u8 2), .lit (.int .u8 29), .lit (.int .u8 14), .lit (.int .u8 24), .lit (.int .u8 3), .lit (.int .u8 30), .lit (.int .u8 22), .lit (.int .u8 20), .lit (.int .u8 15), .lit (.int .u8 25), .lit (.int .u8 17), .lit (.int .u8 4), .lit (.int .u8 8), .lit (.int .u8 31), .lit (.int .u8 27), .lit (.int .u8 13), .lit (.int .u8 23), .lit (.int .u8 21), .lit (.int .u8 19), .lit (.int .u8 16), .lit (.int .u8 7), .lit (.int .u8 26), .lit (.int .u8 12), .lit (.int .u8 18), .lit (.int .u8 6), .lit (.int .u8 11), .lit (.int .u8 5), .lit (.int .u8 10), .lit (.int .u8 9)]
def laid_math_bits_deBruijn64tab {H : Type} : DataW H := .agg [.lit (.int .u8 0), .lit (.int .u8 1), .lit (.int .u8 56), .lit (.int .u8 2), .lit (.int .u8 57), .lit (.int .u8 49), .lit (.int .u8 28), .lit (.int .u8 3), .lit (.int .u8 61), .lit (.int .u8 58), .lit (.int .u8 42), .lit (.int .u8 50), .lit (.int .u8 38), .lit (.int .u8 29), .lit (.int .u8 17), .lit (.int .u8 4), .lit (.int .u8 62), .lit (.int .u8 47), .lit (.int .u8 59), .lit (.int .u8 36), .lit (.int .u8 45), .lit (.int .u8 43), .lit (.int .u8 51), .lit (.int .u8 22), .lit (.int .u8 53), .lit (.int .u8 39), .lit (.int .u8 33), .lit (.int .u8 30), .lit (.int .u8 24), .lit (.int .u8 18), .lit (.int .u8 12), .lit (.int .u8 5), .lit (.int .u8 63), .lit (.int .u8 55), .lit (.int .u8 48), .lit (.int .u8 27), .lit (.int .u8 60), .lit (.int .u8 41), .lit (.int .u8 37), .lit (.int .u8 16), .lit (.int .u8 46), .lit (.int .u8 35), .lit (.int .u8 44), .lit (.int .u8 21), .lit (.int .u8 52), .lit (.int .u8 32), .lit (.int .u8 23), .lit (.int .u8 11), .lit (.int .u8 54), .lit (.int .u8 26), .lit (.int .u8 40), .lit (.int .u8 15), .lit (.int .u8 34), .lit (.int .u8 20), .lit (.int .u8 31), .lit (.int .u8 10), .lit (.int .u8 25), .lit (.int .u8 14), .lit (.int .u8 19), .lit (.int .u8 9), .lit (.int .u8 13), .lit (.int .u8 8), .lit (.int .u8 7), .lit (.int .u8 6)]

/-- 'cloakroomlaw18.StepBlocks': WHATEVER THE INPUT: true; the input reads as it did. -/
def stepBlocksSpec : ChangeSpec := { name := "stepBlocks", fn := fun _ => fun
  | [] => { results := [.lit (.bool true)], args := [] }
  | _ => none }
def stepBlocksRow : OpenClaim := { program := "ytjbfdmhldofeiaagreatdoor", sum := "27534fe92006bd263d9174eadf67cc811e9e5fa42b92867028d4a11028229d78", func := "cloakroom/cloakroomlaw18.StepBlocks", spec := "stepBlocks", named := ["math/bits.deBruijn32tab", "math/bits.deBruijn64tab"], apart := false, laid := [("math/bits.deBruijn32tab", laid_math_bits_deBruijn32tab), ("math/bits.deBruijn64tab", laid_math_bits_deBruijn64tab)] }
def StepBlocksSaid : Prop := stepBlocksRow.holds Tryz.pinned (OpenSpec.ofChange stepBlocksSpec)

/-- ITS FALSE NEIGHBOUR: 'it returns false'. Refute it at one input. -/
def stepBlocksWrong : ChangeSpec := { name := "stepBlocks", fn := fun _ => fun
  | [] => { results := [.lit (.bool false)], args := [] }
  | _ => none }
def StepBlocksWrongFalsely : Prop := stepBlocksRow.holds Tryz.pinned (OpenSpec.ofChange stepBlocksWrong)

/-- 'cloakroomlaw18.StepIfs': WHATEVER THE INPUT: true; the input reads as it did. -/
def stepIfsSpec : ChangeSpec := { name := "stepIfs", fn := fun _ => fun
  | [d] => { results := [.lit (.bool true)], args := [d] }
  | _ => none }
def stepIfsRow : OpenClaim := { program := "ytjbfdmhldofeiaagreatdoor", sum := "27534fe92006bd263d9174eadf67cc811e9e5fa42b92867028d4a11028229d78", func := "cloakroom/cloakroomlaw18.StepIfs", spec := "stepIfs", named := ["math/bits.deBruijn32tab", "math/bits.deBruijn64tab"], apart := false, laid := [("math/bits.deBruijn32tab", laid_math_bits_deBruijn32tab), ("math/bits.deBruijn64tab", laid_math_bits_deBruijn64tab)] }
def StepIfsSaid : Prop := stepIfsRow.holds Tryz.pinned (OpenSpec.ofChange stepIfsSpec)

/-- ITS FALSE NEIGHBOUR: 'it returns false'. Refute it at one input. -/
def stepIfsWrong : ChangeSpec := { name := "stepIfs", fn := fun _ => fun
  | [d] => { results := [.lit (.bool false)], args := [d] }
  | _ => none }
def StepIfsWrongFalsely : Prop := stepIfsRow.holds Tryz.pinned (OpenSpec.ofChange stepIfsWrong)

/-- 'cloakroomlaw18.StepTables': WHATEVER THE INPUT: true; the input reads as it did. -/
def stepTablesSpec : ChangeSpec := { name := "stepTables", fn := fun _ => fun
  | [d1, d2] => { results := [.lit (.bool true)], args := [d1, d2] }
  | _ => none }
def stepTablesRow : OpenClaim := { program := "ytjbfdmhldofeiaagreatdoor", sum := "27534fe92006bd263d9174eadf67cc811e9e5fa42b92867028d4a11028229d78", func := "cloakroom/cloakroomlaw18.StepTables", spec := "stepTables", named := ["math/bits.deBruijn32tab", "math/bits.deBruijn64tab"], apart := false, laid := [("math/bits.deBruijn32tab", laid_math_bits_deBruijn32tab), ("math/bits.deBruijn64tab", laid_math_bits_deBruijn64tab)] }
def StepTablesSaid : Prop := stepTablesRow.holds Tryz.pinned (OpenSpec.ofChange stepTablesSpec)

/-- ITS FALSE NEIGHBOUR: 'it returns false'. Refute it at one input. -/
def stepTablesWrong : ChangeSpec := { name := "stepTables", fn := fun _ => fun
  | [d1, d2] => { results := [.lit (.bool false)], args := [d1, d2] }
  | _ => none }
def StepTablesWrongFalsely : Prop := stepTablesRow.holds Tryz.pinned (OpenSpec.ofChange stepTablesWrong)

/-- 'cloakroomlaw18.StepCalls': WHATEVER THE INPUT: true; the input reads as it did. -/
def stepCallsSpec : ChangeSpec := { name := "stepCalls", fn := fun _ => fun
  | [] => { results := [.lit (.bool true)], args := [] }
  | _ => none }
def stepCallsRow : OpenClaim := { program := "ytjbfdmhldofeiaagreatdoor", sum := "27534fe92006bd263d9174eadf67cc811e9e5fa42b92867028d4a11028229d78", func := "cloakroom/cloakroomlaw18.StepCalls", spec := "stepCalls", named := ["math/bits.deBruijn32tab", "math/bits.deBruijn64tab"], apart := false, laid := [("math/bits.deBruijn32tab", laid_math_bits_deBruijn32tab), ("math/bits.deBruijn64tab", laid_math_bits_deBruijn64tab)] }
def StepCallsSaid : Prop := stepCallsRow.holds Tryz.pinned (OpenSpec.ofChange stepCallsSpec)

/-- ITS FALSE NEIGHBOUR: 'it returns false'. Refute it at one input. -/
def stepCallsWrong : ChangeSpec := { name := "stepCalls", fn := fun _ => fun
  | [] => { results := [.lit (.bool false)], args := [] }
  | _ => none }
def StepCallsWrongFalsely : Prop := stepCallsRow.holds Tryz.pinned (OpenSpec.ofChange stepCallsWrong)

/-- 'cloakroomlaw18.StepRefs': WHATEVER THE INPUT: true; the input reads as it did. -/
def stepRefsSpec : ChangeSpec := { name := "stepRefs", fn := fun _ => fun
  | [] => { results := [.lit (.bool true)], args := [] }
  | _ => none }
def stepRefsRow : OpenClaim := { program := "ytjbfdmhldofeiaagreatdoor", sum := "27534fe92006bd263d9174eadf67cc811e9e5fa42b92867028d4a11028229d78", func := "cloakroom/cloakroomlaw18.StepRefs", spec := "stepRefs", named := ["math/bits.deBruijn32tab", "math/bits.deBruijn64tab"], apart := false, laid := [("math/bits.deBruijn32tab", laid_math_bits_deBruijn32tab), ("math/bits.deBruijn64tab", laid_math_bits_deBruijn64tab)] }
def StepRefsSaid : Prop := stepRefsRow.holds Tryz.pinned (OpenSpec.ofChange stepRefsSpec)

/-- ITS FALSE NEIGHBOUR: 'it returns false'. Refute it at one input. -/
def stepRefsWrong : ChangeSpec := { name := "stepRefs", fn := fun _ => fun
  | [] => { results := [.lit (.bool false)], args := [] }
  | _ => none }
def StepRefsWrongFalsely : Prop := stepRefsRow.holds Tryz.pinned (OpenSpec.ofChange stepRefsWrong)

/-- 'cloakroomlaw18.StepMemory': WHATEVER THE INPUT: true; the input reads as it did. -/
def stepMemorySpec : ChangeSpec := { name := "stepMemory", fn := fun _ => fun
  | [] => { results := [.lit (.bool true)], args := [] }
  | _ => none }
def stepMemoryRow : OpenClaim := { program := "ytjbfdmhldofeiaagreatdoor", sum := "27534fe92006bd263d9174eadf67cc811e9e5fa42b92867028d4a11028229d78", func := "cloakroom/cloakroomlaw18.StepMemory", spec := "stepMemory", named := ["math/bits.deBruijn32tab", "math/bits.deBruijn64tab"], apart := false, laid := [("math/bits.deBruijn32tab", laid_math_bits_deBruijn32tab), ("math/bits.deBruijn64tab", laid_math_bits_deBruijn64tab)] }
def StepMemorySaid : Prop := stepMemoryRow.holds Tryz.pinned (OpenSpec.ofChange stepMemorySpec)

/-- ITS FALSE NEIGHBOUR: 'it returns false'. Refute it at one input. -/
def stepMemoryWrong : ChangeSpec := { name := "stepMemory", fn := fun _ => fun
  | [] => { results := [.lit (.bool false)], args := [] }
  | _ => none }
def StepMemoryWrongFalsely : Prop := stepMemoryRow.holds Tryz.pinned (OpenSpec.ofChange stepMemoryWrong)

/-- 'cloakroomlaw18.StepRoom': WHATEVER THE INPUT: true; the input reads as it did. -/
def stepRoomSpec : ChangeSpec := { name := "stepRoom", fn := fun _ => fun
  | [d] => { results := [.lit (.bool true)], args := [d] }
  | _ => none }
def stepRoomRow : OpenClaim := { program := "ytjbfdmhldofeiaagreatdoor", sum := "27534fe92006bd263d9174eadf67cc811e9e5fa42b92867028d4a11028229d78", func := "cloakroom/cloakroomlaw18.StepRoom", spec := "stepRoom", named := ["math/bits.deBruijn32tab", "math/bits.deBruijn64tab"], apart := false, laid := [("math/bits.deBruijn32tab", laid_math_bits_deBruijn32tab), ("math/bits.deBruijn64tab", laid_math_bits_deBruijn64tab)] }
def StepRoomSaid : Prop := stepRoomRow.holds Tryz.pinned (OpenSpec.ofChange stepRoomSpec)

/-- ITS FALSE NEIGHBOUR: 'it returns false'. Refute it at one input. -/
def stepRoomWrong : ChangeSpec := { name := "stepRoom", fn := fun _ => fun
  | [d] => { results := [.lit (.bool false)], args := [d] }
  | _ => none }
def StepRoomWrongFalsely : Prop := stepRoomRow.holds Tryz.pinned (OpenSpec.ofChange stepRoomWrong)

/-- 'cloakroomlaw18.StepLocals': WHATEVER THE INPUT: true; the input reads as it did. -/
def stepLocalsSpec : ChangeSpec := { name := "stepLocals", fn := fun _ => fun
  | [d1, d2] => { results := [.lit (.bool true)], args := [d1, d2] }
  | _ => none }
def stepLocalsRow : OpenClaim := { program := "ytjbfdmhldofeiaagreatdoor", sum := "27534fe92006bd263d9174eadf67cc811e9e5fa42b92867028d4a11028229d78", func := "cloakroom/cloakroomlaw18.StepLocals", spec := "stepLocals", named := ["math/bits.deBruijn32tab", "math/bits.deBruijn64tab"], apart := false, laid := [("math/bits.deBruijn32tab", laid_math_bits_deBruijn32tab), ("math/bits.deBruijn64tab", laid_math_bits_deBruijn64tab)] }
def StepLocalsSaid : Prop := stepLocalsRow.holds Tryz.pinned (OpenSpec.ofChange stepLocalsSpec)

/-- ITS FALSE NEIGHBOUR: 'it returns false'. Refute it at one input. -/
def stepLocalsWrong : ChangeSpec := { name := "stepLocals", fn := fun _ => fun
  | [d1, d2] => { results := [.lit (.bool false)], args := [d1, d2] }
  | _ => none }
def StepLocalsWrongFalsely : Prop := stepLocalsRow.holds Tryz.pinned (OpenSpec.ofChange stepLocalsWrong)

/-- 'cloakroomlaw18.StepMulti': WHATEVER THE INPUT: true; the input reads as it did. -/
def stepMultiSpec : ChangeSpec := { name := "stepMulti", fn := fun _ => fun
  | [d1, d2] => { results := [.lit (.bool true)], args := [d1, d2] }
  | _ => none }
def stepMultiRow : OpenClaim := { program := "ytjbfdmhldofeiaagreatdoor", sum := "27534fe92006bd263d9174eadf67cc811e9e5fa42b92867028d4a11028229d78", func := "cloakroom/cloakroomlaw18.StepMulti", spec := "stepMulti", named := ["math/bits.deBruijn32tab", "math/bits.deBruijn64tab"], apart := false, laid := [("math/bits.deBruijn32tab", laid_math_bits_deBruijn32tab), ("math/bits.deBruijn64tab", laid_math_bits_deBruijn64tab)] }
def StepMultiSaid : Prop := stepMultiRow.holds Tryz.pinned (OpenSpec.ofChange stepMultiSpec)

/-- ITS FALSE NEIGHBOUR: 'it returns false'. Refute it at one input. -/
def stepMultiWrong : ChangeSpec := { name := "stepMulti", fn := fun _ => fun
  | [d1, d2] => { results := [.lit (.bool false)], args := [d1, d2] }
  | _ => none }
def StepMultiWrongFalsely : Prop := stepMultiRow.holds Tryz.pinned (OpenSpec.ofChange stepMultiWrong)

/-- 'cloakroomlaw18.StepInits': WHATEVER THE INPUT: true; the input reads as it did. -/
def stepInitsSpec : ChangeSpec := { name := "stepInits", fn := fun _ => fun
  | [d1, d2, d3, d4] => { results := [.lit (.bool true)], args := [d1, d2, d3, d4] }
  | _ => none }
def stepInitsRow : OpenClaim := { program := "ytjbfdmhldofeiaagreatdoor", sum := "27534fe92006bd263d9174eadf67cc811e9e5fa42b92867028d4a11028229d78", func := "cloakroom/cloakroomlaw18.StepInits", spec := "stepInits", named := ["math/bits.deBruijn32tab", "math/bits.deBruijn64tab"], apart := false, laid := [("math/bits.deBruijn32tab", laid_math_bits_deBruijn32tab), ("math/bits.deBruijn64tab", laid_math_bits_deBruijn64tab)] }
def StepInitsSaid : Prop := stepInitsRow.holds Tryz.pinned (OpenSpec.ofChange stepInitsSpec)

/-- ITS FALSE NEIGHBOUR: 'it returns false'. Refute it at one input. -/
def stepInitsWrong : ChangeSpec := { name := "stepInits", fn := fun _ => fun
  | [d1, d2, d3, d4] => { results := [.lit (.bool false)], args := [d1, d2, d3, d4] }
  | _ => none }
def StepInitsWrongFalsely : Prop := stepInitsRow.holds Tryz.pinned (OpenSpec.ofChange stepInitsWrong)

/-- 'cloakroomlaw18.StepOpens': WHATEVER THE INPUT: true; the input reads as it did. -/
def stepOpensSpec : ChangeSpec := { name := "stepOpens", fn := fun _ => fun
  | [d1, d2, d3] => { results := [.lit (.bool true)], args := [d1, d2, d3] }
  | _ => none }
def stepOpensRow : OpenClaim := { program := "ytjbfdmhldofeiaagreatdoor", sum := "27534fe92006bd263d9174eadf67cc811e9e5fa42b92867028d4a11028229d78", func := "cloakroom/cloakroomlaw18.StepOpens", spec := "stepOpens", named := ["math/bits.deBruijn32tab", "math/bits.deBruijn64tab"], apart := false, laid := [("math/bits.deBruijn32tab", laid_math_bits_deBruijn32tab), ("math/bits.deBruijn64tab", laid_math_bits_deBruijn64tab)] }
def StepOpensSaid : Prop := stepOpensRow.holds Tryz.pinned (OpenSpec.ofChange stepOpensSpec)

/-- ITS FALSE NEIGHBOUR: 'it returns false'. Refute it at one input. -/
def stepOpensWrong : ChangeSpec := { name := "stepOpens", fn := fun _ => fun
  | [d1, d2, d3] => { results := [.lit (.bool false)], args := [d1, d2, d3] }
  | _ => none }
def StepOpensWrongFalsely : Prop := stepOpensRow.holds Tryz.pinned (OpenSpec.ofChange stepOpensWrong)

/-- 'cloakroomlaw18.StepConverts': WHATEVER THE INPUT: true; the input reads as it did. -/
def stepConvertsSpec : ChangeSpec := { name := "stepConverts", fn := fun _ => fun
  | [d] => { results := [.lit (.bool true)], args := [d] }
  | _ => none }
def stepConvertsRow : OpenClaim := { program := "ytjbfdmhldofeiaagreatdoor", sum := "27534fe92006bd263d9174eadf67cc811e9e5fa42b92867028d4a11028229d78", func := "cloakroom/cloakroomlaw18.StepConverts", spec := "stepConverts", named := ["math/bits.deBruijn32tab", "math/bits.deBruijn64tab"], apart := false, laid := [("math/bits.deBruijn32tab", laid_math_bits_deBruijn32tab), ("math/bits.deBruijn64tab", laid_math_bits_deBruijn64tab)] }
def StepConvertsSaid : Prop := stepConvertsRow.holds Tryz.pinned (OpenSpec.ofChange stepConvertsSpec)

/-- ITS FALSE NEIGHBOUR: 'it returns false'. Refute it at one input. -/
def stepConvertsWrong : ChangeSpec := { name := "stepConverts", fn := fun _ => fun
  | [d] => { results := [.lit (.bool false)], args := [d] }
  | _ => none }
def StepConvertsWrongFalsely : Prop := stepConvertsRow.holds Tryz.pinned (OpenSpec.ofChange stepConvertsWrong)

/- THE SECOND FORM. 'bulk': how many values and letters a reading holds, each counted each time it is reached (what is shared counts as often as it is met; a slice's spare places count too). A statement '..UptoSaid' is the law's where the arguments, and the package variables that the reading takes, are together of bulk at most 1048576: NARROWER than '..Said'. Prove '..Said' where nothing that the law and all that it calls make is longer than what came in: it says more and counts as full. Else prove '..UptoSaid'. A law counts once. -/
mutual
def uptoBulk {H : Type} : DataW H → Nat
  | .lit (.string bytes) => bytes.length + 1
  | .lit _ => 1
  | .nil => 1
  | .ptr d => uptoBulk d + 1
  | .slice elems spare => uptoBulkAll elems + uptoBulkAll spare + 1
  | .agg parts => uptoBulkAll parts + 1
  | .iface _ d => uptoBulk d + 1
  | .map entries => uptoBulkEntries entries + 1
  | .held _ => 1
def uptoBulkAll {H : Type} : List (DataW H) → Nat
  | [] => 0
  | d :: r => uptoBulk d + uptoBulkAll r
def uptoBulkEntries {H : Type} : List (Lit × DataW H) → Nat
  | [] => 0
  | x :: r => uptoBulkEntry x + uptoBulkEntries r
def uptoBulkEntry {H : Type} : Lit × DataW H → Nat
  | (.string bytes, d) => bytes.length + uptoBulk d + 1
  | (_, d) => uptoBulk d + 1
 end
def uptoSmall : (H : Type) → List (DataW H) → Bool := fun _ ds => decide (uptoBulkAll ds ≤ 1048576)
def OpenSpec.upto (s : _root_.Go.ChangeSpec) : _root_.Go.OpenSpec := { _root_.Go.OpenSpec.ofChange s with cond := some uptoSmall }

/-- 'cloakroomlaw18.StepBlocks', WHERE WHAT IT READS IS OF BULK AT MOST 1048576: true; the input reads as it did. -/
def stepBlocksUptoRow : OpenClaim := { program := "ytjbfdmhldofeiaagreatdoor", sum := "27534fe92006bd263d9174eadf67cc811e9e5fa42b92867028d4a11028229d78", func := "cloakroom/cloakroomlaw18.StepBlocks", spec := "stepBlocks", named := ["math/bits.deBruijn32tab", "math/bits.deBruijn64tab"], apart := false, laid := [("math/bits.deBruijn32tab", laid_math_bits_deBruijn32tab), ("math/bits.deBruijn64tab", laid_math_bits_deBruijn64tab)], narrowed := true }
def StepBlocksUptoSaid : Prop := stepBlocksUptoRow.holds Tryz.pinned (OpenSpec.upto stepBlocksSpec)

/-- 'cloakroomlaw18.StepIfs', WHERE WHAT IT READS IS OF BULK AT MOST 1048576: true; the input reads as it did. -/
def stepIfsUptoRow : OpenClaim := { program := "ytjbfdmhldofeiaagreatdoor", sum := "27534fe92006bd263d9174eadf67cc811e9e5fa42b92867028d4a11028229d78", func := "cloakroom/cloakroomlaw18.StepIfs", spec := "stepIfs", named := ["math/bits.deBruijn32tab", "math/bits.deBruijn64tab"], apart := false, laid := [("math/bits.deBruijn32tab", laid_math_bits_deBruijn32tab), ("math/bits.deBruijn64tab", laid_math_bits_deBruijn64tab)], narrowed := true }
def StepIfsUptoSaid : Prop := stepIfsUptoRow.holds Tryz.pinned (OpenSpec.upto stepIfsSpec)

/-- 'cloakroomlaw18.StepTables', WHERE WHAT IT READS IS OF BULK AT MOST 1048576: true; the input reads as it did. -/
def stepTablesUptoRow : OpenClaim := { program := "ytjbfdmhldofeiaagreatdoor", sum := "27534fe92006bd263d9174eadf67cc811e9e5fa42b92867028d4a11028229d78", func := "cloakroom/cloakroomlaw18.StepTables", spec := "stepTables", named := ["math/bits.deBruijn32tab", "math/bits.deBruijn64tab"], apart := false, laid := [("math/bits.deBruijn32tab", laid_math_bits_deBruijn32tab), ("math/bits.deBruijn64tab", laid_math_bits_deBruijn64tab)], narrowed := true }
def StepTablesUptoSaid : Prop := stepTablesUptoRow.holds Tryz.pinned (OpenSpec.upto stepTablesSpec)

/-- 'cloakroomlaw18.StepCalls', WHERE WHAT IT READS IS OF BULK AT MOST 1048576: true; the input reads as it did. -/
def stepCallsUptoRow : OpenClaim := { program := "ytjbfdmhldofeiaagreatdoor", sum := "27534fe92006bd263d9174eadf67cc811e9e5fa42b92867028d4a11028229d78", func := "cloakroom/cloakroomlaw18.StepCalls", spec := "stepCalls", named := ["math/bits.deBruijn32tab", "math/bits.deBruijn64tab"], apart := false, laid := [("math/bits.deBruijn32tab", laid_math_bits_deBruijn32tab), ("math/bits.deBruijn64tab", laid_math_bits_deBruijn64tab)], narrowed := true }
def StepCallsUptoSaid : Prop := stepCallsUptoRow.holds Tryz.pinned (OpenSpec.upto stepCallsSpec)

/-- 'cloakroomlaw18.StepRefs', WHERE WHAT IT READS IS OF BULK AT MOST 1048576: true; the input reads as it did. -/
def stepRefsUptoRow : OpenClaim := { program := "ytjbfdmhldofeiaagreatdoor", sum := "27534fe92006bd263d9174eadf67cc811e9e5fa42b92867028d4a11028229d78", func := "cloakroom/cloakroomlaw18.StepRefs", spec := "stepRefs", named := ["math/bits.deBruijn32tab", "math/bits.deBruijn64tab"], apart := false, laid := [("math/bits.deBruijn32tab", laid_math_bits_deBruijn32tab), ("math/bits.deBruijn64tab", laid_math_bits_deBruijn64tab)], narrowed := true }
def StepRefsUptoSaid : Prop := stepRefsUptoRow.holds Tryz.pinned (OpenSpec.upto stepRefsSpec)

/-- 'cloakroomlaw18.StepMemory', WHERE WHAT IT READS IS OF BULK AT MOST 1048576: true; the input reads as it did. -/
def stepMemoryUptoRow : OpenClaim := { program := "ytjbfdmhldofeiaagreatdoor", sum := "27534fe92006bd263d9174eadf67cc811e9e5fa42b92867028d4a11028229d78", func := "cloakroom/cloakroomlaw18.StepMemory", spec := "stepMemory", named := ["math/bits.deBruijn32tab", "math/bits.deBruijn64tab"], apart := false, laid := [("math/bits.deBruijn32tab", laid_math_bits_deBruijn32tab), ("math/bits.deBruijn64tab", laid_math_bits_deBruijn64tab)], narrowed := true }
def StepMemoryUptoSaid : Prop := stepMemoryUptoRow.holds Tryz.pinned (OpenSpec.upto stepMemorySpec)

/-- 'cloakroomlaw18.StepRoom', WHERE WHAT IT READS IS OF BULK AT MOST 1048576: true; the input reads as it did. -/
def stepRoomUptoRow : OpenClaim := { program := "ytjbfdmhldofeiaagreatdoor", sum := "27534fe92006bd263d9174eadf67cc811e9e5fa42b92867028d4a11028229d78", func := "cloakroom/cloakroomlaw18.StepRoom", spec := "stepRoom", named := ["math/bits.deBruijn32tab", "math/bits.deBruijn64tab"], apart := false, laid := [("math/bits.deBruijn32tab", laid_math_bits_deBruijn32tab), ("math/bits.deBruijn64tab", laid_math_bits_deBruijn64tab)], narrowed := true }
def StepRoomUptoSaid : Prop := stepRoomUptoRow.holds Tryz.pinned (OpenSpec.upto stepRoomSpec)

/-- 'cloakroomlaw18.StepLocals', WHERE WHAT IT READS IS OF BULK AT MOST 1048576: true; the input reads as it did. -/
def stepLocalsUptoRow : OpenClaim := { program := "ytjbfdmhldofeiaagreatdoor", sum := "27534fe92006bd263d9174eadf67cc811e9e5fa42b92867028d4a11028229d78", func := "cloakroom/cloakroomlaw18.StepLocals", spec := "stepLocals", named := ["math/bits.deBruijn32tab", "math/bits.deBruijn64tab"], apart := false, laid := [("math/bits.deBruijn32tab", laid_math_bits_deBruijn32tab), ("math/bits.deBruijn64tab", laid_math_bits_deBruijn64tab)], narrowed := true }
def StepLocalsUptoSaid : Prop := stepLocalsUptoRow.holds Tryz.pinned (OpenSpec.upto stepLocalsSpec)

/-- 'cloakroomlaw18.StepMulti', WHERE WHAT IT READS IS OF BULK AT MOST 1048576: true; the input reads as it did. -/
def stepMultiUptoRow : OpenClaim := { program := "ytjbfdmhldofeiaagreatdoor", sum := "27534fe92006bd263d9174eadf67cc811e9e5fa42b92867028d4a11028229d78", func := "cloakroom/cloakroomlaw18.StepMulti", spec := "stepMulti", named := ["math/bits.deBruijn32tab", "math/bits.deBruijn64tab"], apart := false, laid := [("math/bits.deBruijn32tab", laid_math_bits_deBruijn32tab), ("math/bits.deBruijn64tab", laid_math_bits_deBruijn64tab)], narrowed := true }
def StepMultiUptoSaid : Prop := stepMultiUptoRow.holds Tryz.pinned (OpenSpec.upto stepMultiSpec)

/-- 'cloakroomlaw18.StepInits', WHERE WHAT IT READS IS OF BULK AT MOST 1048576: true; the input reads as it did. -/
def stepInitsUptoRow : OpenClaim := { program := "ytjbfdmhldofeiaagreatdoor", sum := "27534fe92006bd263d9174eadf67cc811e9e5fa42b92867028d4a11028229d78", func := "cloakroom/cloakroomlaw18.StepInits", spec := "stepInits", named := ["math/bits.deBruijn32tab", "math/bits.deBruijn64tab"], apart := false, laid := [("math/bits.deBruijn32tab", laid_math_bits_deBruijn32tab), ("math/bits.deBruijn64tab", laid_math_bits_deBruijn64tab)], narrowed := true }
def StepInitsUptoSaid : Prop := stepInitsUptoRow.holds Tryz.pinned (OpenSpec.upto stepInitsSpec)

/-- 'cloakroomlaw18.StepOpens', WHERE WHAT IT READS IS OF BULK AT MOST 1048576: true; the input reads as it did. -/
def stepOpensUptoRow : OpenClaim := { program := "ytjbfdmhldofeiaagreatdoor", sum := "27534fe92006bd263d9174eadf67cc811e9e5fa42b92867028d4a11028229d78", func := "cloakroom/cloakroomlaw18.StepOpens", spec := "stepOpens", named := ["math/bits.deBruijn32tab", "math/bits.deBruijn64tab"], apart := false, laid := [("math/bits.deBruijn32tab", laid_math_bits_deBruijn32tab), ("math/bits.deBruijn64tab", laid_math_bits_deBruijn64tab)], narrowed := true }
def StepOpensUptoSaid : Prop := stepOpensUptoRow.holds Tryz.pinned (OpenSpec.upto stepOpensSpec)

/-- 'cloakroomlaw18.StepConverts', WHERE WHAT IT READS IS OF BULK AT MOST 1048576: true; the input reads as it did. -/
def stepConvertsUptoRow : OpenClaim := { program := "ytjbfdmhldofeiaagreatdoor", sum := "27534fe92006bd263d9174eadf67cc811e9e5fa42b92867028d4a11028229d78", func := "cloakroom/cloakroomlaw18.StepConverts", spec := "stepConverts", named := ["math/bits.deBruijn32tab", "math/bits.deBruijn64tab"], apart := false, laid := [("math/bits.deBruijn32tab", laid_math_bits_deBruijn32tab), ("math/bits.deBruijn64tab", laid_math_bits_deBruijn64tab)], narrowed := true }
def StepConvertsUptoSaid : Prop := stepConvertsUptoRow.holds Tryz.pinned (OpenSpec.upto stepConvertsSpec)

end Rows
end Go.Proofs.YtjbfdmhldofeiaaGreatDoor
