/- LinkData's call answers true, in any world, and leaves all that was there. -/
import Derived.Test.YtmnebeikafigjaaGreatDoorLkDf
import Derived.Carry
set_option linter.unusedVariables false
namespace Go.Proofs.YtmnebeikafigjaaGreatDoor
open Go.RowKit Go.Sep Go.St
theorem linkData_calls (A : Option Addr) (len cap : Nat) (zs : List Int) (a1 : Int) (w1 : (Lit.int .u16 a1).wf = true) (a2 : Int) (w2 : (Lit.int .u8 a2).wf = true) (W : World) (y : Go.Vm.IsRow .u8 W A len cap zs) :
    Calls Tryz.prog 7 #[.slice A len cap, .int .u16 a1, .int .u8 a2] W fun e W' => e = .returned (.bool true) ∧ Same0 W W' := by
  have h1 := w1
  have h2 := w2
  simp [Lit.wf, IntKind.min, IntKind.max, IntKind.signed, IntKind.bits] at h1 h2
  obtain ⟨a, rfl⟩ : ∃ a : Nat, a1 = a := ⟨a1.toNat, by omega⟩
  obtain ⟨m, rfl⟩ : ∃ m : Nat, a2 = m := ⟨a2.toNat, by omega⟩
  obtain ⟨bs, rfl, hr, hb⟩ := row_arg y
  by_cases hl : bs.length ≤ 60
  · exact ld_main A cap bs hl a m (by omega) (by omega) W hr hb
  · exact ld_long A cap bs.length (by omega) a m W
/-- An argument reads as it did. -/
theorem Same0.trod {H : Type} {enc : TypeId × Value → H} {P : Program} {t : TypeId} (hl : laidOutB P = true) (hr : P.readableRec t = true) (hrow : t < P.types.size) {W W' : World} {v : Value} {d : DataW H} {ps : List MemPlace}
    (h : DataW.Trod enc P W 0 (fun _ => true) true t v d ps) (hb : Same0 W W') (hlt : ∀ x ∈ ps, x.block < W.heap.size) :
    DataW.Trod enc P W' 0 (fun b => decide (b < W.heap.size)) true t v d ps :=
  WideElems.Trod_stays hl hr hrow h (fun x hx => (Below.mk (B := W.heap.size) (w := W) (w' := { W' with tape := W.tape }) hb.os rfl hb.output hb.size hb.block).same (hlt x hx)) (fun x hx => by simpa using hlt x hx)
end Go.Proofs.YtmnebeikafigjaaGreatDoor
