import Derived.Test.YtfjnhdbbjggkmaaLoadC
set_option linter.unusedVariables false
set_option linter.unusedSimpArgs false
namespace Go.Proofs.Ytfjnhdbbjggkmaa.Mem
open Go.RowKit Go.Proofs.YtfjnhdbbjggkmaaW.PrintWords Go.Proofs.YtfjnhdbbjggkmaaW.PrintLast Go.Proofs.YtfjnhdbbjggkmaaW.PrintMore Go.Proofs.Ytfjnhdbbjggkmaa.PMemBytes
def ByteL (l : List Int) : Prop := ∀ x ∈ l, 0 ≤ x ∧ x ≤ 255
theorem getD_byte {l : List Int} (h : ByteL l) (i : Nat) : 0 ≤ l.getD i 0 ∧ l.getD i 0 ≤ 255 := by
  rw [List.getD_eq_getElem?_getD]
  by_cases hi : i < l.length
  · rw [List.getElem?_eq_getElem hi]; exact h _ (List.getElem_mem hi)
  · rw [List.getElem?_eq_none (by omega)]; simp
/-- The plain sum: lowest byte first. -/
def leP (l : List Int) (a : Nat) : Nat → Int
  | 0 => 0
  | n + 1 => l.getD a 0 + 256 * leP l (a + 1) n
theorem leP_bd {l : List Int} (h : ByteL l) : ∀ n a, 0 ≤ leP l a n ∧ leP l a n < 256 ^ n
  | 0, a => by simp [leP]
  | n + 1, a => by
    have h1 := getD_byte h a
    have h2 := leP_bd h n (a + 1)
    have : (256 : Int) ^ (n + 1) = 256 * 256 ^ n := by rw [Int.pow_succ, Int.mul_comm]
    have eP : leP l a (n + 1) = l.getD a 0 + 256 * leP l (a + 1) n := rfl
    rw [eP]
    omega
theorem p7 : ∀ n : Fin 8, (256 : Int) ^ n.val ≤ 72057594037927936 := by decide
theorem or_low (x b : Nat) (hb : b < 256) (hx : x * 256 < 18446744073709551616) : Go.bits .or .u64 ((x * 256 : Nat) : Int) (b : Int) = ((x * 256 + b : Nat) : Int) := by
  rw [u64_or_nat _ _ hx (by omega)]
  have e : x * 256 = x <<< 8 := by rw [Nat.shiftLeft_eq]
  rw [e, Nat.shiftLeft_add_eq_or_of_lt (show b < 2 ^ 8 by omega)]
theorem leF_eq {l : List Int} (h : ByteL l) : ∀ n a, n ≤ 8 → leF l a n = leP l a n
  | 0, a, _ => rfl
  | n + 1, a, hn => by
    have ih := leF_eq h n (a + 1) (by omega)
    have h1 := getD_byte h a
    have h2 := leP_bd h n (a + 1)
    have hp : (256 : Int) ^ n ≤ 72057594037927936 := p7 ⟨n, by omega⟩
    have eF : leF l a (n + 1) = Go.bits .or .u64 (IntKind.u64.wrap (leF l (a + 1) n * 256)) (IntKind.u64.wrap (l.getD a 0)) := rfl
    have eP : leP l a (n + 1) = l.getD a 0 + 256 * leP l (a + 1) n := rfl
    rw [eF, eP, ih]
    obtain ⟨x, hx⟩ : ∃ x : Nat, leP l (a + 1) n = x := ⟨(leP l (a + 1) n).toNat, by omega⟩
    obtain ⟨b, hb⟩ : ∃ b : Nat, l.getD a 0 = b := ⟨(l.getD a 0).toNat, by omega⟩
    rw [hx] at h2 ⊢
    rw [hb] at h1 ⊢
    have hx7 : (x : Int) < 72057594037927936 := by omega
    rw [wrap_u64k, wrap_u64k, show ((x : Int) * 256 % 18446744073709551616) = ((x * 256 : Nat) : Int) by omega, show ((b : Int) % 18446744073709551616) = (b : Int) by omega, or_low x b (by omega) (by omega)]
    omega
theorem leP_split (l : List Int) : ∀ (m n a : Nat), leP l a (m + n) = leP l a m + 256 ^ m * leP l (a + m) n
  | 0, n, a => by simp [leP]
  | m + 1, n, a => by
    rw [show m + 1 + n = (m + n) + 1 by omega]
    have e1 : leP l a ((m + n) + 1) = l.getD a 0 + 256 * leP l (a + 1) (m + n) := rfl
    have e2 : leP l a (m + 1) = l.getD a 0 + 256 * leP l (a + 1) m := rfl
    rw [e1, e2, leP_split l m n (a + 1), show a + 1 + m = a + (m + 1) by omega, Int.pow_succ, Int.mul_add, ← Int.mul_assoc, Int.mul_comm (256 ^ m) 256]
    omega
end Go.Proofs.Ytfjnhdbbjggkmaa.Mem
