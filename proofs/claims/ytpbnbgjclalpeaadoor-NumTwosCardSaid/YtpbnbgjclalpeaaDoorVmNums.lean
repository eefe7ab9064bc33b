/- VM: what its terms say of numbers, told for 'omega'. -/
import Derived.Test.YtpbnbgjclalpeaaDoorVmTree
set_option linter.unusedVariables false
set_option linter.unusedSimpArgs false
namespace Go.Vm
/-- What a condition says. -/
def BE.P (env : Nat → Int) : BE → Bool → Prop
  | .c x, b => x = b
  | .lt x y, true => x.den env < y.den env
  | .lt x y, false => y.den env ≤ x.den env
  | .le x y, true => x.den env ≤ y.den env
  | .le x y, false => y.den env < x.den env
  | .eq x y, true => x.den env = y.den env
  | .eq x y, false => x.den env ≠ y.den env
  | .not a, b => BE.P env a (!b)
theorem den_iff (env : Nat → Int) : ∀ (e : BE) (b : Bool), e.den env = b ↔ e.P env b
  | .c x, b => Iff.rfl
  | .lt x y, b => by
    show iltb _ _ = b ↔ _
    rw [iltb_eq]
    cases b <;> simp [BE.P]
  | .le x y, b => by
    show ileb _ _ = b ↔ _
    rw [ileb_eq]
    cases b <;> simp [BE.P]
  | .eq x y, b => by
    show ieqb _ _ = b ↔ _
    rw [ieqb_eq]
    cases b <;> simp [BE.P]
  | .not a, b => by
    show (!a.den env) = b ↔ a.P env (!b)
    rw [← den_iff env a]
    cases b <;> simp
theorem wrap_u8 (n : Int) : wrapF .u8 n = n % 256 := by rw [wrapF_eq]; simp [IntKind.wrap, IntKind.bits, IntKind.signed]
theorem wrap_u16 (n : Int) : wrapF .u16 n = n % 65536 := by rw [wrapF_eq]; simp [IntKind.wrap, IntKind.bits, IntKind.signed]
theorem wrap_u32 (n : Int) : wrapF .u32 n = n % 4294967296 := by rw [wrapF_eq]; simp [IntKind.wrap, IntKind.bits, IntKind.signed]
theorem wrap_u64 (n : Int) : wrapF .u64 n = n % 18446744073709551616 := by rw [wrapF_eq]; simp [IntKind.wrap, IntKind.bits, IntKind.signed]
theorem wrap_i8 (n : Int) : wrapF .i8 n = (n + 128) % 256 - 128 := by rw [wrapF_eq]; simp [IntKind.wrap, IntKind.bits, IntKind.signed]; split <;> omega
theorem wrap_i16 (n : Int) : wrapF .i16 n = (n + 32768) % 65536 - 32768 := by rw [wrapF_eq]; simp [IntKind.wrap, IntKind.bits, IntKind.signed]; split <;> omega
theorem wrap_i32 (n : Int) : wrapF .i32 n = (n + 2147483648) % 4294967296 - 2147483648 := by rw [wrapF_eq]; simp [IntKind.wrap, IntKind.bits, IntKind.signed]; split <;> omega
theorem wrap_i64 (n : Int) : wrapF .i64 n = (n + 9223372036854775808) % 18446744073709551616 - 9223372036854775808 := by rw [wrapF_eq]; simp [IntKind.wrap, IntKind.bits, IntKind.signed]; split <;> omega
theorem den_add (k : IntKind) (x y : Int) : IOp.den .add k x y = x + y := rfl
theorem den_sub (k : IntKind) (x y : Int) : IOp.den .sub k x y = x - y := isub_eq x y
theorem den_mul (k : IntKind) (x y : Int) : IOp.den .mul k x y = x * y := rfl
theorem den_tdiv (k : IntKind) (x y : Int) : IOp.den .tdiv k x y = x.tdiv y := rfl
theorem den_tmod (k : IntKind) (x y : Int) : IOp.den .tmod k x y = x.tmod y := rfl
theorem den_min (k : IntKind) (x y : Int) : IOp.den .min k x y = min x y := by
  show (match iltb y x with | true => y | false => x) = _
  rw [iltb_eq]
  by_cases h : y < x
  · rw [decide_eq_true h]; show y = _; omega
  · rw [decide_eq_false h]; show x = _; omega
theorem den_max (k : IntKind) (x y : Int) : IOp.den .max k x y = max x y := by
  show (match iltb x y with | true => y | false => x) = _
  rw [iltb_eq]
  by_cases h : x < y
  · rw [decide_eq_true h]; show y = _; omega
  · rw [decide_eq_false h]; show x = _; omega
theorem den_and (k : IntKind) (x y : Int) : IOp.den .and k x y = andF k x y := rfl
theorem land_mask (m j : Nat) : Nat.land m (2 ^ j - 1) = m % 2 ^ j := Nat.and_two_pow_sub_one_eq_mod m j
/-- The lowest bits of a number. -/
theorem and_u64 (x : Int) (j : Nat) (hj : j ≤ 64) : andF .u64 x ((2 ^ j - 1 : Nat) : Int) = x % ((2 ^ j : Nat) : Int) := by
  have hp : (2 : Nat) ^ j ≤ 2 ^ 64 := Nat.pow_le_pow_right (by decide) hj
  have hd : (2 : Nat) ^ j ∣ 2 ^ 64 := Nat.pow_dvd_pow 2 hj
  have h0 : 0 < (2 : Nat) ^ j := Nat.two_pow_pos j
  have e2 : imod ((2 ^ j - 1 : Nat) : Int) (two .u64) = 2 ^ j - 1 := by
    show Nat.mod (2 ^ j - 1) 18446744073709551616 = _
    exact Nat.mod_eq_of_lt (by omega)
  show Int.ofNat (Nat.land (imod x (two .u64)) (imod ((2 ^ j - 1 : Nat) : Int) (two .u64))) = _
  rw [e2, land_mask]
  show ((imod x (two .u64) % 2 ^ j : Nat) : Int) = _
  rw [Int.natCast_emod, imod_eq x (two .u64) (by decide)]
  exact Int.emod_emod_of_dvd x (by exact_mod_cast hd)
theorem and_low (x : Int) : andF .u64 x ((4294967295 : Nat) : Int) = x % 4294967296 := and_u64 x 32 (by decide)
theorem and_31 (x : Int) : andF .u64 x ((31 : Nat) : Int) = x % 32 := and_u64 x 5 (by decide)
theorem and_63 (x : Int) : andF .u64 x ((63 : Nat) : Int) = x % 64 := and_u64 x 6 (by decide)
theorem den_or (k : IntKind) (x y : Int) : IOp.den .or k x y = orF k x y := rfl
theorem den_xor (k : IntKind) (x y : Int) : IOp.den .xor k x y = xorF k x y := rfl
theorem and_i64 (x : Int) (j : Nat) (hj : j ≤ 62) : andF .i64 x ((2 ^ j - 1 : Nat) : Int) = x % ((2 ^ j : Nat) : Int) := by
  have hp : (2 : Nat) ^ j ≤ 2 ^ 62 := Nat.pow_le_pow_right (by decide) hj
  have hd : (2 : Nat) ^ j ∣ 2 ^ 64 := Nat.pow_dvd_pow 2 (by omega)
  have h0 : 0 < (2 : Nat) ^ j := Nat.two_pow_pos j
  have e2 : imod ((2 ^ j - 1 : Nat) : Int) (two .i64) = 2 ^ j - 1 := by
    show Nat.mod (2 ^ j - 1) 18446744073709551616 = _
    exact Nat.mod_eq_of_lt (by omega)
  have hlt : imod x (two .i64) % 2 ^ j < 2 ^ j := Nat.mod_lt _ h0
  show wrapB true (Nat.land (imod x (two .i64)) (imod ((2 ^ j - 1 : Nat) : Int) (two .i64))) (two .i64) = _
  rw [e2, land_mask]
  have hb : Nat.ble (two .i64 / 2) (imod x (two .i64) % 2 ^ j) = false := by
    rw [RL.ble_dec]
    have : two .i64 / 2 = 9223372036854775808 := by decide
    rw [this]
    simp only [decide_eq_false_iff_not]
    omega
  show (match Nat.ble (two .i64 / 2) (imod x (two .i64) % 2 ^ j) with | true => Int.subNatNat (imod x (two .i64) % 2 ^ j) (two .i64) | false => .ofNat (imod x (two .i64) % 2 ^ j)) = _
  rw [hb]
  show ((imod x (two .i64) % 2 ^ j : Nat) : Int) = _
  rw [Int.natCast_emod, imod_eq x (two .i64) (by decide)]
  exact Int.emod_emod_of_dvd x (by exact_mod_cast hd)
theorem and_i31 (x : Int) : andF .i64 x ((31 : Nat) : Int) = x % 32 := and_i64 x 5 (by decide)
theorem and_i63 (x : Int) : andF .i64 x ((63 : Nat) : Int) = x % 64 := and_i64 x 6 (by decide)
end Go.Vm
