/- StepRoom's call answers true, in any world, and leaves all that was there. -/
import Derived.Test.YtmnebeikafigjaaGreatDoorJ14
set_option linter.unusedVariables false
namespace Go.Proofs.YtmnebeikafigjaaGreatDoor
open Go.RowKit Go.Sep Go.St
theorem stepRoom_calls (a1 : Int) (w1 : (Lit.int .u16 a1).wf = true) (W : World) :
    Calls Tryz.prog 3 #[.int .u16 a1] W fun e W' => e = .returned (.bool true) ∧ Same0 W W' := by
  have h1 := w1
  simp [Lit.wf, IntKind.min, IntKind.max, IntKind.signed, IntKind.bits] at h1
  obtain ⟨a, rfl⟩ : ∃ a : Nat, a1 = a := ⟨a1.toNat, by omega⟩
  exact stepRoom_c a (by omega) W
end Go.Proofs.YtmnebeikafigjaaGreatDoor
