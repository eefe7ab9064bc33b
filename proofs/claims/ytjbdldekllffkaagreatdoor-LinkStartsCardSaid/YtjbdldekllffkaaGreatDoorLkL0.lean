/- LinkStarts' call answers true, in any world, and leaves all that was there. -/
import Derived.Test.YtjbdldekllffkaaGreatDoorLkV0
import Derived.Test.YtjbdldekllffkaaGreatDoorLkV1
import Derived.Test.YtjbdldekllffkaaGreatDoorLkV2
import Derived.Test.YtjbdldekllffkaaGreatDoorLkV3
set_option linter.unusedVariables false
namespace Go.Proofs.YtjbdldekllffkaaGreatDoor
theorem linkStarts_calls (a0 : Int) (w0 : (Lit.int .u8 a0).wf = true) (a1 : Int) (w1 : (Lit.int .u8 a1).wf = true) (W : World) :
    Calls Tryz.prog 13 #[.int .u8 a0, .int .u8 a1] W fun e W' => e = .returned (.bool true) ∧ ∀ may, W.keptBut W' may := by
  have h0 := w0
  have h1 := w1
  simp [Lit.wf, IntKind.min, IntKind.max, IntKind.signed, IntKind.bits] at h0 h1
  obtain ⟨k, rfl⟩ : ∃ k : Nat, a0 = k := ⟨a0.toNat, by omega⟩
  obtain ⟨n, rfl⟩ : ∃ n : Nat, a1 = n := ⟨a1.toNat, by omega⟩
  have hk : k < 256 := by omega
  have hn : n < 256 := by omega
  have h4 : k % 4 = 0 ∨ k % 4 = 1 ∨ k % 4 = 2 ∨ k % 4 = 3 := by omega
  rcases h4 with h | h | h | h
  · exact (ls_0 k n hk h hn W).mono fun _ _ q => ⟨q.1, q.2.kept⟩
  · exact (ls_1 k n hk h hn W).mono fun _ _ q => ⟨q.1, q.2.kept⟩
  · exact (ls_2 k n hk h hn W).mono fun _ _ q => ⟨q.1, q.2.kept⟩
  · exact (ls_3 k n hk h hn W).mono fun _ _ q => ⟨q.1, q.2.kept⟩
end Go.Proofs.YtjbdldekllffkaaGreatDoor
