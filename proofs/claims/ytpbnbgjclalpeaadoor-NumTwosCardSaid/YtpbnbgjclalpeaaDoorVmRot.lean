/- VM: shifts and turns, told of numbers. -/
import Derived.Test.YtpbnbgjclalpeaaDoorVmNums
set_option linter.unusedVariables false
set_option linter.unusedSimpArgs false
namespace Go.Vm
/-- A turn to the left, of w bits. -/
def rotN (w X m : Nat) : Nat := Nat.lor (X * 2 ^ m % 2 ^ w) (X / 2 ^ (w - m))
theorem lor_low {a b i : Nat} (h : b < 2 ^ i) : Nat.lor (a * 2 ^ i) b = a * 2 ^ i + b := by
  have := Nat.shiftLeft_add_eq_or_of_lt h a
  rw [Nat.shiftLeft_eq] at this
  exact this.symm
theorem mul_mod_pow (w X m : Nat) (hm : m ≤ w) : X * 2 ^ m % 2 ^ w = X % 2 ^ (w - m) * 2 ^ m := by
  have : 2 ^ w = 2 ^ (w - m) * 2 ^ m := by rw [← Nat.pow_add]; congr 1; omega
  rw [this, Nat.mul_mod_mul_right]
theorem div_lt_pow (w X m : Nat) (hm : m ≤ w) (hX : X < 2 ^ w) : X / 2 ^ (w - m) < 2 ^ m := by
  rw [Nat.div_lt_iff_lt_mul (Nat.two_pow_pos _), ← Nat.pow_add]
  rwa [show m + (w - m) = w by omega]
theorem rotN_eq (w X m : Nat) (hm : m ≤ w) (hX : X < 2 ^ w) : rotN w X m = X % 2 ^ (w - m) * 2 ^ m + X / 2 ^ (w - m) := by
  unfold rotN
  rw [mul_mod_pow w X m hm, lor_low (div_lt_pow w X m hm hX)]
theorem rotN_lt (w X m : Nat) (hm : m ≤ w) (hX : X < 2 ^ w) : rotN w X m < 2 ^ w := by
  rw [rotN_eq w X m hm hX]
  have h1 := div_lt_pow w X m hm hX
  have h2 : X % 2 ^ (w - m) < 2 ^ (w - m) := Nat.mod_lt _ (Nat.two_pow_pos _)
  have h3 : 2 ^ w = 2 ^ (w - m) * 2 ^ m := by rw [← Nat.pow_add]; congr 1; omega
  have h4 : (X % 2 ^ (w - m) + 1) * 2 ^ m ≤ 2 ^ (w - m) * 2 ^ m := Nat.mul_le_mul_right _ h2
  rw [Nat.add_mul] at h4
  omega
theorem rotN_back (w X m : Nat) (hm : m < w) (hX : X < 2 ^ w) : rotN w (rotN w X m) ((w - m) % w) = X := by
  by_cases h0 : m = 0
  · subst h0
    have e : (w - 0) % w = 0 := by simp
    rw [e]
    have h1 : rotN w X 0 = X := by
      rw [rotN_eq w X 0 (by omega) hX]
      simp [Nat.mod_eq_of_lt hX, Nat.div_eq_of_lt hX]
    rw [h1, h1]
  · have e : (w - m) % w = w - m := Nat.mod_eq_of_lt (by omega)
    rw [e, rotN_eq w _ (w - m) (by omega) (rotN_lt w X m (by omega) hX), show w - (w - m) = m by omega, rotN_eq w X m (by omega) hX]
    have h1 := div_lt_pow w X m (by omega) hX
    have hp : 0 < 2 ^ m := Nat.two_pow_pos m
    have a : (X % 2 ^ (w - m) * 2 ^ m + X / 2 ^ (w - m)) % 2 ^ m = X / 2 ^ (w - m) := by
      rw [Nat.add_comm, Nat.add_mul_mod_self_right, Nat.mod_eq_of_lt h1]
    have b : (X % 2 ^ (w - m) * 2 ^ m + X / 2 ^ (w - m)) / 2 ^ m = X % 2 ^ (w - m) := by
      rw [Nat.add_comm, Nat.add_mul_div_right _ _ hp, Nat.div_eq_of_lt h1, Nat.zero_add]
    rw [a, b, Nat.mul_comm]
    exact Nat.div_add_mod X (2 ^ (w - m))
section
variable {env : Nat → Int}
theorem orF_u32 (a b : Nat) (ha : a < 4294967296) (hb : b < 4294967296) : orF .u32 (a : Int) (b : Int) = ((Nat.lor a b : Nat) : Int) := by
  show Int.ofNat (Nat.lor (imod (a : Int) (two .u32)) (imod (b : Int) (two .u32))) = _
  have e : ∀ c : Nat, c < 4294967296 → imod (c : Int) (two .u32) = c := fun c hc => Nat.mod_eq_of_lt hc
  rw [e a ha, e b hb]; rfl
theorem orF_u64 (a b : Nat) (ha : a < 18446744073709551616) (hb : b < 18446744073709551616) : orF .u64 (a : Int) (b : Int) = ((Nat.lor a b : Nat) : Int) := by
  show Int.ofNat (Nat.lor (imod (a : Int) (two .u64)) (imod (b : Int) (two .u64))) = _
  have e : ∀ c : Nat, c < 18446744073709551616 → imod (c : Int) (two .u64) = c := fun c hc => Nat.mod_eq_of_lt hc
  rw [e a ha, e b hb]; rfl
theorem shl_at {k : IntKind} {x s : IE} {m : Nat} (hs : s.den env = m) (hm : m ≤ k.bits) : (IE.bin .shl k x s).den env = x.den env * ((2 ^ m : Nat) : Int) := by
  show IOp.den .shl k (x.den env) (s.den env) = _
  rw [shl_den, hs, show min ((m : Int).toNat) k.bits = m by omega]
  norm_cast
theorem shr_at {k : IntKind} {x s : IE} {m : Nat} (hs : s.den env = m) (hm : m ≤ k.bits) : (IE.bin .shr k x s).den env = x.den env / ((2 ^ m : Nat) : Int) := by
  show IOp.den .shr k (x.den env) (s.den env) = _
  rw [shr_den, hs, show min ((m : Int).toNat) k.bits = m by omega, show ((2 : Int) ^ m) = ((2 ^ m : Nat) : Int) by norm_cast]
  exact Int.fdiv_eq_ediv_of_nonneg _ (Int.natCast_nonneg _)
/-- The library's turn of 32 bits. -/
theorem rot32_den {x s : IE} {X m : Nat} (hx : x.den env = X) (hX : X < 4294967296) (hs : s.den env = m) (hm : m < 32) :
    (IE.bin .or .u32 (.wrap .u32 (.bin .shl .u32 x s)) (.bin .shr .u32 x (.wrap .u64 (.bin .sub .u64 (.c (.ofNat 32)) s)))).den env = ((rotN 32 X m : Nat) : Int) := by
  have h1 : (IE.wrap .u32 (.bin .shl .u32 x s)).den env = ((X * 2 ^ m % 4294967296 : Nat) : Int) := by
    show wrapF .u32 ((IE.bin .shl .u32 x s).den env) = _
    rw [wrap_u32, shl_at hs (by show m ≤ 32; omega), hx, Int.natCast_emod, Int.natCast_mul]; rfl
  have h2 : (IE.wrap .u64 (.bin .sub .u64 (.c (.ofNat 32)) s)).den env = ((32 - m : Nat) : Int) := by
    show wrapF .u64 (isub 32 (s.den env)) = _
    rw [wrap_u64, isub_eq, hs]; omega
  have h3 : (IE.bin .shr .u32 x (.wrap .u64 (.bin .sub .u64 (.c (.ofNat 32)) s))).den env = ((X / 2 ^ (32 - m) : Nat) : Int) := by
    rw [shr_at h2 (by show 32 - m ≤ 32; omega), hx]; norm_cast
  show orF .u32 ((IE.wrap .u32 (.bin .shl .u32 x s)).den env) ((IE.bin .shr .u32 x (.wrap .u64 (.bin .sub .u64 (.c (.ofNat 32)) s))).den env) = _
  rw [h1, h3, orF_u32 _ _ (Nat.mod_lt _ (by decide)) (by have := Nat.div_le_self X (2 ^ (32 - m)); omega)]
  rfl
theorem rot64_den {x s : IE} {X m : Nat} (hx : x.den env = X) (hX : X < 18446744073709551616) (hs : s.den env = m) (hm : m < 64) :
    (IE.bin .or .u64 (.wrap .u64 (.bin .shl .u64 x s)) (.bin .shr .u64 x (.wrap .u64 (.bin .sub .u64 (.c (.ofNat 64)) s)))).den env = ((rotN 64 X m : Nat) : Int) := by
  have h1 : (IE.wrap .u64 (.bin .shl .u64 x s)).den env = ((X * 2 ^ m % 18446744073709551616 : Nat) : Int) := by
    show wrapF .u64 ((IE.bin .shl .u64 x s).den env) = _
    rw [wrap_u64, shl_at hs (by show m ≤ 64; omega), hx, Int.natCast_emod, Int.natCast_mul]; rfl
  have h2 : (IE.wrap .u64 (.bin .sub .u64 (.c (.ofNat 64)) s)).den env = ((64 - m : Nat) : Int) := by
    show wrapF .u64 (isub 64 (s.den env)) = _
    rw [wrap_u64, isub_eq, hs]; omega
  have h3 : (IE.bin .shr .u64 x (.wrap .u64 (.bin .sub .u64 (.c (.ofNat 64)) s))).den env = ((X / 2 ^ (64 - m) : Nat) : Int) := by
    rw [shr_at h2 (by show 64 - m ≤ 64; omega), hx]; norm_cast
  show orF .u64 ((IE.wrap .u64 (.bin .shl .u64 x s)).den env) ((IE.bin .shr .u64 x (.wrap .u64 (.bin .sub .u64 (.c (.ofNat 64)) s))).den env) = _
  rw [h1, h3, orF_u64 _ _ (Nat.mod_lt _ (by decide)) (by have := Nat.div_le_self X (2 ^ (64 - m)); omega)]
  rfl
end
end Go.Vm
