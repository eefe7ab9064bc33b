/-
  No cell of these rows narrows 'for every input' (looked for: loops, veiled, ifaces, maps, wideKeys, modest, calm, conditions, laid).
  DERIVED. THE GIVEN ROWS OF THIS SEAT. 9 by the template 'for every input the law returns true; each argument reads behind the call as it read before'; 0 by the template 'total and deterministic' (their statements: YtfjnhdbbjggkmaaTotals.lean).
  GIVEN WITH THE SEED: the statements are not yours to turn. If you find one false, say at which input.
  Laid BY PROGRAM, IN A SANDBOX (cutbox-rows.mjs): the forced cells as the released guide's own fill.sh prints them over the translation 3a493934f578e020… (all of the seat's roots in one cut). By AI agents, Wed Nov 11 2026. No macro, syntax, notation, axiom, sorry.
-/
import Derived.Test.YtfjnhdbbjggkmaaChecked
import GoSem.Claim
import GoSem.ClaimJoined
import GoSem.ClaimMapViews
import Derived.JoinedTies
import Derived.KernelRfl
namespace Go.Proofs.Ytfjnhdbbjggkmaa
/- THE CELL 'sum', in the pinned program and in every row, IS THE sha256 OF THE DUMP (.gsa) THAT YtfjnhdbbjggkmaaProg.lean LOADS. Nothing in Lean hashes anything: it is a label: what it is worth is what the hold of that sum in a sandbox is worth. -/
noncomputable def Try.pinned : Pinned := { name := "ytfjnhdbbjggkmaa", sum := "3a493934f578e020a9c1fff823c62ea93122f3d07e319b1df0c6d424f11ad591", checked := Try.checked }
namespace Rows
def none {H : Type} : Left H := { results := [], args := [] }

/-- 'cloakroomlaw14.MemBack': WHATEVER THE INPUT: true; the input reads as it did. -/
def memBackSpec : ChangeSpec := { name := "memBack", fn := fun _ => fun
  | [d1, d2, d3, d4, d5] => { results := [.lit (.bool true)], args := [d1, d2, d3, d4, d5] }
  | _ => none }
def memBackRow : OpenClaim := { program := "ytfjnhdbbjggkmaa", sum := "3a493934f578e020a9c1fff823c62ea93122f3d07e319b1df0c6d424f11ad591", func := "cloakroom/cloakroomlaw14.MemBack", spec := "memBack", apart := false }
def MemBackSaid : Prop := memBackRow.holds Try.pinned (OpenSpec.ofChange memBackSpec)

/-- ITS FALSE NEIGHBOUR: 'it returns false'. Refute it at one input. -/
def memBackWrong : ChangeSpec := { name := "memBack", fn := fun _ => fun
  | [d1, d2, d3, d4, d5] => { results := [.lit (.bool false)], args := [d1, d2, d3, d4, d5] }
  | _ => none }
def MemBackWrongFalsely : Prop := memBackRow.holds Try.pinned (OpenSpec.ofChange memBackWrong)

/-- 'cloakroomlaw14.MemFits': WHATEVER THE INPUT: true; the input reads as it did. -/
def memFitsSpec : ChangeSpec := { name := "memFits", fn := fun _ => fun
  | [d1, d2, d3] => { results := [.lit (.bool true)], args := [d1, d2, d3] }
  | _ => none }
def memFitsRow : OpenClaim := { program := "ytfjnhdbbjggkmaa", sum := "3a493934f578e020a9c1fff823c62ea93122f3d07e319b1df0c6d424f11ad591", func := "cloakroom/cloakroomlaw14.MemFits", spec := "memFits", apart := false }
def MemFitsSaid : Prop := memFitsRow.holds Try.pinned (OpenSpec.ofChange memFitsSpec)

/-- ITS FALSE NEIGHBOUR: 'it returns false'. Refute it at one input. -/
def memFitsWrong : ChangeSpec := { name := "memFits", fn := fun _ => fun
  | [d1, d2, d3] => { results := [.lit (.bool false)], args := [d1, d2, d3] }
  | _ => none }
def MemFitsWrongFalsely : Prop := memFitsRow.holds Try.pinned (OpenSpec.ofChange memFitsWrong)

/-- 'cloakroomlaw14.MemGrows': WHATEVER THE INPUT: true; the input reads as it did. -/
def memGrowsSpec : ChangeSpec := { name := "memGrows", fn := fun _ => fun
  | [d1, d2, d3, d4] => { results := [.lit (.bool true)], args := [d1, d2, d3, d4] }
  | _ => none }
def memGrowsRow : OpenClaim := { program := "ytfjnhdbbjggkmaa", sum := "3a493934f578e020a9c1fff823c62ea93122f3d07e319b1df0c6d424f11ad591", func := "cloakroom/cloakroomlaw14.MemGrows", spec := "memGrows", apart := false }
def MemGrowsSaid : Prop := memGrowsRow.holds Try.pinned (OpenSpec.ofChange memGrowsSpec)

/-- ITS FALSE NEIGHBOUR: 'it returns false'. Refute it at one input. -/
def memGrowsWrong : ChangeSpec := { name := "memGrows", fn := fun _ => fun
  | [d1, d2, d3, d4] => { results := [.lit (.bool false)], args := [d1, d2, d3, d4] }
  | _ => none }
def MemGrowsWrongFalsely : Prop := memGrowsRow.holds Try.pinned (OpenSpec.ofChange memGrowsWrong)

/-- 'cloakroomlaw14.MemSigns': WHATEVER THE INPUT: true; the input reads as it did. -/
def memSignsSpec : ChangeSpec := { name := "memSigns", fn := fun _ => fun
  | [d1, d2] => { results := [.lit (.bool true)], args := [d1, d2] }
  | _ => none }
def memSignsRow : OpenClaim := { program := "ytfjnhdbbjggkmaa", sum := "3a493934f578e020a9c1fff823c62ea93122f3d07e319b1df0c6d424f11ad591", func := "cloakroom/cloakroomlaw14.MemSigns", spec := "memSigns", apart := false }
def MemSignsSaid : Prop := memSignsRow.holds Try.pinned (OpenSpec.ofChange memSignsSpec)

/-- ITS FALSE NEIGHBOUR: 'it returns false'. Refute it at one input. -/
def memSignsWrong : ChangeSpec := { name := "memSigns", fn := fun _ => fun
  | [d1, d2] => { results := [.lit (.bool false)], args := [d1, d2] }
  | _ => none }
def MemSignsWrongFalsely : Prop := memSignsRow.holds Try.pinned (OpenSpec.ofChange memSignsWrong)

/-- 'cloakroomlaw14.MemBytes': WHATEVER THE INPUT: true; the input reads as it did. -/
def memBytesSpec : ChangeSpec := { name := "memBytes", fn := fun _ => fun
  | [d1, d2] => { results := [.lit (.bool true)], args := [d1, d2] }
  | _ => none }
def memBytesRow : OpenClaim := { program := "ytfjnhdbbjggkmaa", sum := "3a493934f578e020a9c1fff823c62ea93122f3d07e319b1df0c6d424f11ad591", func := "cloakroom/cloakroomlaw14.MemBytes", spec := "memBytes", apart := false }
def MemBytesSaid : Prop := memBytesRow.holds Try.pinned (OpenSpec.ofChange memBytesSpec)

/-- ITS FALSE NEIGHBOUR: 'it returns false'. Refute it at one input. -/
def memBytesWrong : ChangeSpec := { name := "memBytes", fn := fun _ => fun
  | [d1, d2] => { results := [.lit (.bool false)], args := [d1, d2] }
  | _ => none }
def MemBytesWrongFalsely : Prop := memBytesRow.holds Try.pinned (OpenSpec.ofChange memBytesWrong)

/-- 'cloakroomlaw15.TableAll': WHATEVER THE INPUT: true; the input reads as it did. -/
def tableAllSpec : ChangeSpec := { name := "tableAll", fn := fun _ => fun
  | [d1, d2, d3, d4, d5, d6] => { results := [.lit (.bool true)], args := [d1, d2, d3, d4, d5, d6] }
  | _ => none }
def tableAllRow : OpenClaim := { program := "ytfjnhdbbjggkmaa", sum := "3a493934f578e020a9c1fff823c62ea93122f3d07e319b1df0c6d424f11ad591", func := "cloakroom/cloakroomlaw15.TableAll", spec := "tableAll", apart := false }
def TableAllSaid : Prop := tableAllRow.holds Try.pinned (OpenSpec.ofChange tableAllSpec)

/-- ITS FALSE NEIGHBOUR: 'it returns false'. Refute it at one input. -/
def tableAllWrong : ChangeSpec := { name := "tableAll", fn := fun _ => fun
  | [d1, d2, d3, d4, d5, d6] => { results := [.lit (.bool false)], args := [d1, d2, d3, d4, d5, d6] }
  | _ => none }
def TableAllWrongFalsely : Prop := tableAllRow.holds Try.pinned (OpenSpec.ofChange tableAllWrong)

/-- 'cloakroomlaw15.TableSelf': WHATEVER THE INPUT: true; the input reads as it did. -/
def tableSelfSpec : ChangeSpec := { name := "tableSelf", fn := fun _ => fun
  | [d1, d2, d3, d4] => { results := [.lit (.bool true)], args := [d1, d2, d3, d4] }
  | _ => none }
def tableSelfRow : OpenClaim := { program := "ytfjnhdbbjggkmaa", sum := "3a493934f578e020a9c1fff823c62ea93122f3d07e319b1df0c6d424f11ad591", func := "cloakroom/cloakroomlaw15.TableSelf", spec := "tableSelf", apart := false }
def TableSelfSaid : Prop := tableSelfRow.holds Try.pinned (OpenSpec.ofChange tableSelfSpec)

/-- ITS FALSE NEIGHBOUR: 'it returns false'. Refute it at one input. -/
def tableSelfWrong : ChangeSpec := { name := "tableSelf", fn := fun _ => fun
  | [d1, d2, d3, d4] => { results := [.lit (.bool false)], args := [d1, d2, d3, d4] }
  | _ => none }
def TableSelfWrongFalsely : Prop := tableSelfRow.holds Try.pinned (OpenSpec.ofChange tableSelfWrong)

/-- 'cloakroomlaw15.TableGrows': WHATEVER THE INPUT: true; the input reads as it did. -/
def tableGrowsSpec : ChangeSpec := { name := "tableGrows", fn := fun _ => fun
  | [d1, d2, d3, d4, d5] => { results := [.lit (.bool true)], args := [d1, d2, d3, d4, d5] }
  | _ => none }
def tableGrowsRow : OpenClaim := { program := "ytfjnhdbbjggkmaa", sum := "3a493934f578e020a9c1fff823c62ea93122f3d07e319b1df0c6d424f11ad591", func := "cloakroom/cloakroomlaw15.TableGrows", spec := "tableGrows", apart := false }
def TableGrowsSaid : Prop := tableGrowsRow.holds Try.pinned (OpenSpec.ofChange tableGrowsSpec)

/-- ITS FALSE NEIGHBOUR: 'it returns false'. Refute it at one input. -/
def tableGrowsWrong : ChangeSpec := { name := "tableGrows", fn := fun _ => fun
  | [d1, d2, d3, d4, d5] => { results := [.lit (.bool false)], args := [d1, d2, d3, d4, d5] }
  | _ => none }
def TableGrowsWrongFalsely : Prop := tableGrowsRow.holds Try.pinned (OpenSpec.ofChange tableGrowsWrong)

/-- 'cloakroomlaw15.TableForms': WHATEVER THE INPUT: true; the input reads as it did. -/
def tableFormsSpec : ChangeSpec := { name := "tableForms", fn := fun _ => fun
  | [] => { results := [.lit (.bool true)], args := [] }
  | _ => none }
def tableFormsRow : OpenClaim := { program := "ytfjnhdbbjggkmaa", sum := "3a493934f578e020a9c1fff823c62ea93122f3d07e319b1df0c6d424f11ad591", func := "cloakroom/cloakroomlaw15.TableForms", spec := "tableForms", apart := false }
def TableFormsSaid : Prop := tableFormsRow.holds Try.pinned (OpenSpec.ofChange tableFormsSpec)

/-- ITS FALSE NEIGHBOUR: 'it returns false'. Refute it at one input. -/
def tableFormsWrong : ChangeSpec := { name := "tableForms", fn := fun _ => fun
  | [] => { results := [.lit (.bool false)], args := [] }
  | _ => none }
def TableFormsWrongFalsely : Prop := tableFormsRow.holds Try.pinned (OpenSpec.ofChange tableFormsWrong)

/- THE SECOND FORM. 'bulk': how many values and letters a reading holds, each counted each time it is reached (what is shared counts as often as it is met; a slice's spare places count too). A statement '..UptoSaid' is the law's where the arguments, and the package variables that the reading takes, are together of bulk at most 1048576: NARROWER than '..Said'. Prove '..Said' where nothing that the law and all that it calls make is longer than what came in: it says more and counts as full. Else prove '..UptoSaid'. A law counts once. -/
mutual
def uptoBulk {H : Type} : DataW H → Nat
  | .lit (.string bytes) => bytes.length + 1
  | .lit _ => 1
  | .nil => 1
  | .ptr d => uptoBulk d + 1
  | .slice elems spare => uptoBulkAll elems + uptoBulkAll spare + 1
  | .agg parts => uptoBulkAll parts + 1
  | .iface _ d => uptoBulk d + 1
  | .map entries => uptoBulkEntries entries + 1
  | .held _ => 1
def uptoBulkAll {H : Type} : List (DataW H) → Nat
  | [] => 0
  | d :: r => uptoBulk d + uptoBulkAll r
def uptoBulkEntries {H : Type} : List (Lit × DataW H) → Nat
  | [] => 0
  | x :: r => uptoBulkEntry x + uptoBulkEntries r
def uptoBulkEntry {H : Type} : Lit × DataW H → Nat
  | (.string bytes, d) => bytes.length + uptoBulk d + 1
  | (_, d) => uptoBulk d + 1
 end
def uptoSmall : (H : Type) → List (DataW H) → Bool := fun _ ds => decide (uptoBulkAll ds ≤ 1048576)
def OpenSpec.upto (s : _root_.Go.ChangeSpec) : _root_.Go.OpenSpec := { _root_.Go.OpenSpec.ofChange s with cond := some uptoSmall }

/-- 'cloakroomlaw14.MemBack', WHERE WHAT IT READS IS OF BULK AT MOST 1048576: true; the input reads as it did. -/
def memBackUptoRow : OpenClaim := { program := "ytfjnhdbbjggkmaa", sum := "3a493934f578e020a9c1fff823c62ea93122f3d07e319b1df0c6d424f11ad591", func := "cloakroom/cloakroomlaw14.MemBack", spec := "memBack", apart := false, narrowed := true }
def MemBackUptoSaid : Prop := memBackUptoRow.holds Try.pinned (OpenSpec.upto memBackSpec)

/-- 'cloakroomlaw14.MemFits', WHERE WHAT IT READS IS OF BULK AT MOST 1048576: true; the input reads as it did. -/
def memFitsUptoRow : OpenClaim := { program := "ytfjnhdbbjggkmaa", sum := "3a493934f578e020a9c1fff823c62ea93122f3d07e319b1df0c6d424f11ad591", func := "cloakroom/cloakroomlaw14.MemFits", spec := "memFits", apart := false, narrowed := true }
def MemFitsUptoSaid : Prop := memFitsUptoRow.holds Try.pinned (OpenSpec.upto memFitsSpec)

/-- 'cloakroomlaw14.MemGrows', WHERE WHAT IT READS IS OF BULK AT MOST 1048576: true; the input reads as it did. -/
def memGrowsUptoRow : OpenClaim := { program := "ytfjnhdbbjggkmaa", sum := "3a493934f578e020a9c1fff823c62ea93122f3d07e319b1df0c6d424f11ad591", func := "cloakroom/cloakroomlaw14.MemGrows", spec := "memGrows", apart := false, narrowed := true }
def MemGrowsUptoSaid : Prop := memGrowsUptoRow.holds Try.pinned (OpenSpec.upto memGrowsSpec)

/-- 'cloakroomlaw14.MemSigns', WHERE WHAT IT READS IS OF BULK AT MOST 1048576: true; the input reads as it did. -/
def memSignsUptoRow : OpenClaim := { program := "ytfjnhdbbjggkmaa", sum := "3a493934f578e020a9c1fff823c62ea93122f3d07e319b1df0c6d424f11ad591", func := "cloakroom/cloakroomlaw14.MemSigns", spec := "memSigns", apart := false, narrowed := true }
def MemSignsUptoSaid : Prop := memSignsUptoRow.holds Try.pinned (OpenSpec.upto memSignsSpec)

/-- 'cloakroomlaw14.MemBytes', WHERE WHAT IT READS IS OF BULK AT MOST 1048576: true; the input reads as it did. -/
def memBytesUptoRow : OpenClaim := { program := "ytfjnhdbbjggkmaa", sum := "3a493934f578e020a9c1fff823c62ea93122f3d07e319b1df0c6d424f11ad591", func := "cloakroom/cloakroomlaw14.MemBytes", spec := "memBytes", apart := false, narrowed := true }
def MemBytesUptoSaid : Prop := memBytesUptoRow.holds Try.pinned (OpenSpec.upto memBytesSpec)

/-- 'cloakroomlaw15.TableAll', WHERE WHAT IT READS IS OF BULK AT MOST 1048576: true; the input reads as it did. -/
def tableAllUptoRow : OpenClaim := { program := "ytfjnhdbbjggkmaa", sum := "3a493934f578e020a9c1fff823c62ea93122f3d07e319b1df0c6d424f11ad591", func := "cloakroom/cloakroomlaw15.TableAll", spec := "tableAll", apart := false, narrowed := true }
def TableAllUptoSaid : Prop := tableAllUptoRow.holds Try.pinned (OpenSpec.upto tableAllSpec)

/-- 'cloakroomlaw15.TableSelf', WHERE WHAT IT READS IS OF BULK AT MOST 1048576: true; the input reads as it did. -/
def tableSelfUptoRow : OpenClaim := { program := "ytfjnhdbbjggkmaa", sum := "3a493934f578e020a9c1fff823c62ea93122f3d07e319b1df0c6d424f11ad591", func := "cloakroom/cloakroomlaw15.TableSelf", spec := "tableSelf", apart := false, narrowed := true }
def TableSelfUptoSaid : Prop := tableSelfUptoRow.holds Try.pinned (OpenSpec.upto tableSelfSpec)

/-- 'cloakroomlaw15.TableGrows', WHERE WHAT IT READS IS OF BULK AT MOST 1048576: true; the input reads as it did. -/
def tableGrowsUptoRow : OpenClaim := { program := "ytfjnhdbbjggkmaa", sum := "3a493934f578e020a9c1fff823c62ea93122f3d07e319b1df0c6d424f11ad591", func := "cloakroom/cloakroomlaw15.TableGrows", spec := "tableGrows", apart := false, narrowed := true }
def TableGrowsUptoSaid : Prop := tableGrowsUptoRow.holds Try.pinned (OpenSpec.upto tableGrowsSpec)

/-- 'cloakroomlaw15.TableForms', WHERE WHAT IT READS IS OF BULK AT MOST 1048576: true; the input reads as it did. -/
def tableFormsUptoRow : OpenClaim := { program := "ytfjnhdbbjggkmaa", sum := "3a493934f578e020a9c1fff823c62ea93122f3d07e319b1df0c6d424f11ad591", func := "cloakroom/cloakroomlaw15.TableForms", spec := "tableForms", apart := false, narrowed := true }
def TableFormsUptoSaid : Prop := tableFormsUptoRow.holds Try.pinned (OpenSpec.upto tableFormsSpec)

end Rows
end Go.Proofs.Ytfjnhdbbjggkmaa
