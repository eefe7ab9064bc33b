/- The law NumBits: what is to be shown of the numbers. -/
import Derived.Test.YtpbnbgjclalpeaaDoorVNumBitsB
import Derived.Test.YtpbnbgjclalpeaaDoorVmTree
set_option linter.unusedVariables false
set_option linter.unusedSimpArgs false
namespace Go.Vm.VNumBits
open Go.Vm Go.Vm.Bits
section
variable {env : Nat → Int}
theorem pop_low (n : Nat) (h : n < 4294967296) : popN 64 n = popN 32 n := by
  rw [show (64 : Nat) = 32 + 32 from rfl, popN_split, show n % 2 ^ 32 = n by simp only [Nat.reducePow]; omega, show n / 2 ^ 32 = 0 by simp only [Nat.reducePow]; omega, popN_zero]
  rfl
theorem lz_log (m : Nat) (h0 : m ≠ 0) (h : m < 2 ^ 64) : 63 - lzN 64 m = Nat.log2 m ∧ lzN 64 m ≤ 63 ∧ Nat.log2 m ≤ 63 := by
  have hl := (Nat.log2_lt h0).2 h
  cases m with
  | zero => exact absurd rfl h0
  | succ m =>
    have : lzN 64 (m + 1) = 64 - 1 - Nat.log2 (m + 1) := rfl
    omega
theorem shr_one (m : Nat) (h0 : m ≠ 0) (h : m < 2 ^ 64) : m / 2 ^ (Nat.log2 m) = 1 := by
  have h1 := Nat.log2_self_le h0
  have h2 : m < 2 ^ (Nat.log2 m + 1) := Nat.lt_log2_self
  rw [Nat.pow_succ] at h2
  have h3 := Nat.two_pow_pos (Nat.log2 m)
  have a : 1 ≤ m / 2 ^ (Nat.log2 m) := (Nat.le_div_iff_mul_le h3).2 (by omega)
  have b : m / 2 ^ (Nat.log2 m) < 2 := (Nat.div_lt_iff_lt_mul h3).2 (by omega)
  omega
theorem shl_aux (m t q : Nat) (ht : t < 64) (hq : m = 2 ^ t * (2 * q + 1)) : m * 2 ^ (63 - t) % 18446744073709551616 = 9223372036854775808 := by
  have e : m * 2 ^ (63 - t) = 2 ^ 63 * (2 * q + 1) := by
    rw [hq, Nat.mul_right_comm, ← Nat.pow_add, show t + (63 - t) = 63 by omega]
  rw [e]
  simp only [Nat.reducePow]
  omega
theorem shl_top (m : Nat) (h0 : 0 < m) (h : m < 2 ^ 64) : m * 2 ^ (63 - tzN 64 m) % 18446744073709551616 = 9223372036854775808 := by
  obtain ⟨h1, q, hq⟩ := tz_spec 64 m h0 h
  exact shl_aux m _ q h1 hq
theorem wrapU (n : Nat) (h : n < 18446744073709551616) : wrapF .u64 (n : Int) = n := by rw [wrap_u64]; omega
theorem holds (a0 : 0 ≤ env 0) (b0 : env 0 ≤ 18446744073709551615) : dt.holds env := by
  obtain ⟨m, hm⟩ : ∃ m : Nat, env 0 = m := ⟨(env 0).toNat, by omega⟩
  have hlt : m < 2 ^ 64 := by simp only [Nat.reducePow]; omega
  have dlz : IE.den env (.wrap .u64 (.bin .lz .u64 (.v 0) (.c (.ofNat 0)))) = (lzN 64 m : Nat) := by
    show wrapF .u64 ((lzN 64 (env 0).toNat : Nat) : Int) = _
    have := lzN_le 64 (env 0).toNat
    rw [wrapU _ (by omega), hm]
    rfl
  have dtz : IE.den env (.wrap .u64 (.bin .tz .u64 (.v 0) (.c (.ofNat 0)))) = (tzN 64 m : Nat) := by
    show wrapF .u64 ((tzN 64 (env 0).toNat : Nat) : Int) = _
    have := tzN_le 64 (env 0).toNat
    rw [wrapU _ (by omega), hm]
    rfl
  have slz : IE.den env (.wrap .u64 (.bin .sub .u64 (.c (.ofNat 63)) (.wrap .u64 (.bin .lz .u64 (.v 0) (.c (.ofNat 0)))))) = wrapF .u64 (63 - (lzN 64 m : Nat)) := by
    show wrapF .u64 (IOp.den .sub .u64 (63 : Int) (IE.den env (.wrap .u64 (.bin .lz .u64 (.v 0) (.c (.ofNat 0)))))) = _
    rw [dlz, den_sub]
  have stz : IE.den env (.wrap .u64 (.bin .sub .u64 (.c (.ofNat 63)) (.wrap .u64 (.bin .tz .u64 (.v 0) (.c (.ofNat 0)))))) = wrapF .u64 (63 - (tzN 64 m : Nat)) := by
    show wrapF .u64 (IOp.den .sub .u64 (63 : Int) (IE.den env (.wrap .u64 (.bin .tz .u64 (.v 0) (.c (.ofNat 0)))))) = _
    rw [dtz, den_sub]
  refine holds_fork (fun h0 => holds_fork (fun h1 => holds_fork (fun h2 => holds_out ?_) (fun h2 => holds_fork (fun h3 => holds_true) (fun h3 => holds_fork (fun h4 => holds_fork (fun h5 => holds_out ?_) (fun h5 => holds_fork (fun h6 => holds_fork (fun h7 => holds_out ?_) (fun h7 => holds_fork (fun h8 => holds_out ?_) (fun h8 => holds_true))) (fun h6 => holds_out ?_))) (fun h4 => holds_out ?_)))) (fun h1 => holds_out ?_)) (fun h0 => holds_out ?_)
  · rw [e2, den_iff] at h2
    refine h2 ?_
    show wrapF .u64 ((popN 32 (wrapF .u32 (env 0)).toNat : Nat) : Int) = wrapF .u64 ((popN 64 (wrapF .u64 (wrapF .u32 (env 0))).toNat : Nat) : Int)
    have e : wrapF .u64 (wrapF .u32 (env 0)) = wrapF .u32 (env 0) := by rw [wrap_u64, wrap_u32]; omega
    rw [e, wrap_u32, pop_low _ (by omega)]
  · rw [e3, den_iff] at h3
    have h3 : env 0 ≠ 0 := h3
    have hm0 : m ≠ 0 := by omega
    obtain ⟨l1, l2, l3⟩ := lz_log m hm0 hlt
    rw [e5, den_iff] at h5
    refine h5 ?_
    show IOp.den .shr .u64 (env 0) (IE.den env (.wrap .u64 (.bin .sub .u64 (.c (.ofNat 63)) (.wrap .u64 (.bin .lz .u64 (.v 0) (.c (.ofNat 0))))))) = 1
    rw [slz, show (63 - (lzN 64 m : Nat) : Int) = ((Nat.log2 m : Nat) : Int) by omega, wrapU _ (by omega), shr_den, hm, show min ((Nat.log2 m : Nat) : Int).toNat (IntKind.bits .u64) = Nat.log2 m by show min _ 64 = _; omega]
    rw [show ((2 : Int) ^ Nat.log2 m) = ((2 ^ Nat.log2 m : Nat) : Int) by norm_cast, Int.fdiv_eq_ediv_of_nonneg _ (Int.natCast_nonneg _), ← Int.natCast_ediv, shr_one m hm0 hlt]
    rfl
  · rw [e3, den_iff] at h3
    have h3 : env 0 ≠ 0 := h3
    have hm0 : 0 < m := by omega
    have ht := (tz_spec 64 m hm0 hlt).1
    rw [e7, den_iff] at h7
    refine h7 ?_
    show wrapF .u64 (IOp.den .shl .u64 (env 0) (IE.den env (.wrap .u64 (.bin .sub .u64 (.c (.ofNat 63)) (.wrap .u64 (.bin .tz .u64 (.v 0) (.c (.ofNat 0)))))))) = 9223372036854775808
    rw [stz, show (63 - (tzN 64 m : Nat) : Int) = ((63 - tzN 64 m : Nat) : Int) by omega, wrapU _ (by omega), shl_den, hm, show min ((63 - tzN 64 m : Nat) : Int).toNat (IntKind.bits .u64) = 63 - tzN 64 m by show min _ 64 = _; omega]
    rw [show ((2 : Int) ^ (63 - tzN 64 m)) = ((2 ^ (63 - tzN 64 m) : Nat) : Int) by norm_cast, ← Int.natCast_mul, wrap_u64]
    have := shl_top m hm0 hlt
    omega
  · rw [e8, den_iff] at h8
    refine h8 ?_
    show wrapF .u64 (wrapF .i64 (wrapF .i32 (wrapF .u32 (env 0)))) = wrapF .u64 (wrapF .i64 (wrapF .i32 (env 0)))
    simp only [wrap_u64, wrap_i64, wrap_i32, wrap_u32]
    omega
  · rw [e6, den_iff] at h6
    have h6 : IE.den env (.wrap .u64 (.bin .sub .u64 (.c (.ofNat 63)) (.wrap .u64 (.bin .tz .u64 (.v 0) (.c (.ofNat 0)))))) < 0 := h6
    rw [stz, wrap_u64] at h6
    omega
  · rw [e4, den_iff] at h4
    have h4 : IE.den env (.wrap .u64 (.bin .sub .u64 (.c (.ofNat 63)) (.wrap .u64 (.bin .lz .u64 (.v 0) (.c (.ofNat 0)))))) < 0 := h4
    rw [slz, wrap_u64] at h4
    omega
  · rw [e1, den_iff] at h1
    have h1 : (18446744073709551615 : Int) < env 0 := h1
    omega
  · rw [e0, den_iff] at h0
    have h0 : env 0 < 0 := h0
    omega
end
end Go.Vm.VNumBits
