/- The law NumLow: what is to be shown of the numbers. -/
import Derived.Test.YtpbnbgjclalpeaaDoorVNumLowB
import Derived.Test.YtpbnbgjclalpeaaDoorVmTree
set_option linter.unusedVariables false
set_option linter.unusedSimpArgs false
namespace Go.Vm.VNumLow
open Go.Vm Go.Vm.Bits
section
variable {env : Nat → Int}
theorem shl32 (k : IntKind) (hk : k.bits = 64) (x : Int) : IOp.den .shl k x ((32 : Nat) : Int) = x * 4294967296 := by
  rw [shl_den, show min (((32 : Nat) : Int).toNat) k.bits = 32 by omega]; rfl
theorem shr32 (k : IntKind) (hk : k.bits = 64) (x : Int) : IOp.den .shr k x ((32 : Nat) : Int) = x / 4294967296 := by
  rw [shr_den, show min (((32 : Nat) : Int).toNat) k.bits = 32 by omega, show ((2 : Int) ^ 32) = ((4294967296 : Nat) : Int) by rfl]
  exact Int.fdiv_eq_ediv_of_nonneg _ (Int.natCast_nonneg _)
/-- What stands above the low half is not seen there. -/
theorem or_high (a z : Nat) (ha : a < 4294967296) (hz : z * 4294967296 < 18446744073709551616) : orF .u64 (a : Int) ((z * 4294967296 : Nat) : Int) = ((a + z * 4294967296 : Nat) : Int) := by
  rw [orF_u64 _ _ (by omega) hz]
  have := lor_low (a := z) (b := a) (i := 32) (by omega)
  have h2 : Nat.lor a (z * 4294967296) = Nat.lor (z * 4294967296) a := Nat.or_comm _ _
  rw [h2, show (4294967296 : Nat) = 2 ^ 32 from rfl, this]
  omega
theorem den_hi (x y : Int) (hx : 0 ≤ x) (hy : ∃ z : Nat, y = ((z * 4294967296 : Nat) : Int) ∧ z * 4294967296 < 18446744073709551616) : ∃ z : Nat, orF .u64 (x.tmod ((4294967296 : Nat) : Int)) y = x % 4294967296 + (z : Int) * 4294967296 ∧ z * 4294967296 < 18446744073709551616 := by
  obtain ⟨z, rfl, hz⟩ := hy
  refine ⟨z, ?_, hz⟩
  have e : x.tmod ((4294967296 : Nat) : Int) = (((x % 4294967296).toNat : Nat) : Int) := by
    rw [Int.tmod_eq_emod_of_nonneg hx]; omega
  rw [e, or_high _ _ (by omega) hz]
  omega
theorem denA (a1 : 0 ≤ env 1) (a3 : 0 ≤ env 3) : ∃ z : Nat, IE.den env (.bin .or .u64 (.bin .tmod .u64 (.v 1) (.c (.ofNat 4294967296))) (.wrap .u64 (.bin .shl .u64 (.v 3) (.c (.ofNat 32))))) = env 1 % 4294967296 + (z : Int) * 4294967296 ∧ z * 4294967296 < 18446744073709551616 := by
  refine den_hi (env 1) (wrapF .u64 (IOp.den .shl .u64 (env 3) ((32 : Nat) : Int))) a1 ⟨(env 3 % 4294967296).toNat, ?_, by omega⟩
  rw [shl32 _ rfl, wrap_u64]; omega
theorem denB (a2 : 0 ≤ env 2) (a3 : 0 ≤ env 3) : ∃ z : Nat, IE.den env (.bin .or .u64 (.bin .tmod .u64 (.v 2) (.c (.ofNat 4294967296))) (.wrap .u64 (.bin .shl .u64 (.bin .shr .u64 (.v 3) (.c (.ofNat 32))) (.c (.ofNat 32))))) = env 2 % 4294967296 + (z : Int) * 4294967296 ∧ z * 4294967296 < 18446744073709551616 := by
  refine den_hi (env 2) (wrapF .u64 (IOp.den .shl .u64 (IOp.den .shr .u64 (env 3) ((32 : Nat) : Int)) ((32 : Nat) : Int))) a2 ⟨(env 3 / 4294967296 % 4294967296).toNat, ?_, by omega⟩
  rw [shl32 _ rfl, shr32 _ rfl, wrap_u64]; omega
theorem vA (a1 : 0 ≤ env 1) (a3 : 0 ≤ env 3) : IOp.den .or .u64 (IOp.den .tmod .u64 (env 1) ((4294967296 : Nat) : Int)) (IOp.den .shl .u64 (env 3) ((32 : Nat) : Int) % 18446744073709551616) % 4294967296 = env 1 % 4294967296 := by
  obtain ⟨z, h, _⟩ := denA a1 a3
  have h : IOp.den .or .u64 (IOp.den .tmod .u64 (env 1) ((4294967296 : Nat) : Int)) (wrapF .u64 (IOp.den .shl .u64 (env 3) ((32 : Nat) : Int))) = _ := h
  rw [wrap_u64] at h
  rw [h]; omega
theorem v8 (a1 : 0 ≤ env 1) (a3 : 0 ≤ env 3) : (IOp.den .or .u64 (IOp.den .tmod .u64 (env 1) ((4294967296 : Nat) : Int)) (IOp.den .shl .u64 (env 3) ((32 : Nat) : Int) % 18446744073709551616) + 128) % 256 = (env 1 + 128) % 256 := by
  have := vA a1 a3; omega
theorem v16 (a1 : 0 ≤ env 1) (a3 : 0 ≤ env 3) : (IOp.den .or .u64 (IOp.den .tmod .u64 (env 1) ((4294967296 : Nat) : Int)) (IOp.den .shl .u64 (env 3) ((32 : Nat) : Int) % 18446744073709551616) + 32768) % 65536 = (env 1 + 32768) % 65536 := by
  have := vA a1 a3; omega
theorem vB (a2 : 0 ≤ env 2) (a3 : 0 ≤ env 3) : IOp.den .or .u64 (IOp.den .tmod .u64 (env 2) ((4294967296 : Nat) : Int)) (IOp.den .shl .u64 (IOp.den .shr .u64 (env 3) ((32 : Nat) : Int)) ((32 : Nat) : Int) % 18446744073709551616) % 4294967296 = env 2 % 4294967296 := by
  obtain ⟨z, h, _⟩ := denB a2 a3
  have h : IOp.den .or .u64 (IOp.den .tmod .u64 (env 2) ((4294967296 : Nat) : Int)) (wrapF .u64 (IOp.den .shl .u64 (IOp.den .shr .u64 (env 3) ((32 : Nat) : Int)) ((32 : Nat) : Int))) = _ := h
  rw [wrap_u64] at h
  rw [h]; omega
theorem lzB (k : IntKind) (x y : Int) : 0 ≤ IOp.den .lz k x y ∧ IOp.den .lz k x y ≤ 64 := by
  have h : IOp.den .lz k x y = ((lzN (bitsN k) x.toNat : Nat) : Int) := rfl
  have := lzN_le (bitsN k) x.toNat
  have : bitsN k ≤ 64 := by cases k <;> decide
  omega
theorem tzB (k : IntKind) (x y : Int) : 0 ≤ IOp.den .tz k x y ∧ IOp.den .tz k x y ≤ 64 := by
  have h : IOp.den .tz k x y = ((tzN (bitsN k) x.toNat : Nat) : Int) := rfl
  have := tzN_le (bitsN k) x.toNat
  have : bitsN k ≤ 64 := by cases k <;> decide
  omega
theorem popB (k : IntKind) (x y : Int) : 0 ≤ IOp.den .pop k x y ∧ IOp.den .pop k x y ≤ 64 := by
  have h : IOp.den .pop k x y = ((popN (bitsN k) x.toNat : Nat) : Int) := rfl
  have := popN_le (bitsN k) x.toNat
  have : bitsN k ≤ 64 := by cases k <;> decide
  omega
theorem o0 (a0 : 0 ≤ env 0) (b0 : env 0 ≤ 255) (a1 : 0 ≤ env 1) (a2 : 0 ≤ env 2) (a3 : 0 ≤ env 3) (h0 : e1.den env = true) (h1 : e2.den env = false) : False := by
  simp only [e1, e2, den_iff, BE.P, IE.den, Bool.not_true, Bool.not_false, Int.ofNat_eq_natCast, den_and, den_add, den_sub, and_low, and_31, and_i31, wrap_u32, wrap_u64, wrap_i32, wrap_i64, wrap_i8, wrap_i16, vA a1 a3, vB a2 a3, v8 a1 a3, v16 a1 a3, ne_eq, not_true_eq_false, not_false_eq_true] at h0 h1 <;> omega
theorem o1 (a0 : 0 ≤ env 0) (b0 : env 0 ≤ 255) (a1 : 0 ≤ env 1) (a2 : 0 ≤ env 2) (a3 : 0 ≤ env 3) (h0 : e1.den env = false) (h1 : e2.den env = true) : False := by
  simp only [e1, e2, den_iff, BE.P, IE.den, Bool.not_true, Bool.not_false, Int.ofNat_eq_natCast, den_and, den_add, den_sub, and_low, and_31, and_i31, wrap_u32, wrap_u64, wrap_i32, wrap_i64, wrap_i8, wrap_i16, vA a1 a3, vB a2 a3, v8 a1 a3, v16 a1 a3, ne_eq, not_true_eq_false, not_false_eq_true] at h0 h1 <;> omega
theorem o2 (a0 : 0 ≤ env 0) (b0 : env 0 ≤ 255) (a1 : 0 ≤ env 1) (a2 : 0 ≤ env 2) (a3 : 0 ≤ env 3) (h0 : e4.den env = true) (h1 : e5.den env = false) : False := by
  simp only [e4, e5, den_iff, BE.P, IE.den, Bool.not_true, Bool.not_false, Int.ofNat_eq_natCast, den_and, den_add, den_sub, and_low, and_31, and_i31, wrap_u32, wrap_u64, wrap_i32, wrap_i64, wrap_i8, wrap_i16, vA a1 a3, vB a2 a3, v8 a1 a3, v16 a1 a3, ne_eq, not_true_eq_false, not_false_eq_true] at h0 h1 <;> omega
theorem o3 (a0 : 0 ≤ env 0) (b0 : env 0 ≤ 255) (a1 : 0 ≤ env 1) (a2 : 0 ≤ env 2) (a3 : 0 ≤ env 3) (h0 : e4.den env = false) (h1 : e5.den env = true) : False := by
  simp only [e4, e5, den_iff, BE.P, IE.den, Bool.not_true, Bool.not_false, Int.ofNat_eq_natCast, den_and, den_add, den_sub, and_low, and_31, and_i31, wrap_u32, wrap_u64, wrap_i32, wrap_i64, wrap_i8, wrap_i16, vA a1 a3, vB a2 a3, v8 a1 a3, v16 a1 a3, ne_eq, not_true_eq_false, not_false_eq_true] at h0 h1 <;> omega
theorem o4 (a0 : 0 ≤ env 0) (b0 : env 0 ≤ 255) (a1 : 0 ≤ env 1) (a2 : 0 ≤ env 2) (a3 : 0 ≤ env 3) (h0 : e7.den env = true) (h1 : e8.den env = false) : False := by
  simp only [e7, e8, den_iff, BE.P, IE.den, Bool.not_true, Bool.not_false, Int.ofNat_eq_natCast, den_and, den_add, den_sub, and_low, and_31, and_i31, wrap_u32, wrap_u64, wrap_i32, wrap_i64, wrap_i8, wrap_i16, vA a1 a3, vB a2 a3, v8 a1 a3, v16 a1 a3, ne_eq, not_true_eq_false, not_false_eq_true] at h0 h1 <;> omega
theorem o5 (a0 : 0 ≤ env 0) (b0 : env 0 ≤ 255) (a1 : 0 ≤ env 1) (a2 : 0 ≤ env 2) (a3 : 0 ≤ env 3) (h0 : e7.den env = false) (h1 : e8.den env = true) : False := by
  simp only [e7, e8, den_iff, BE.P, IE.den, Bool.not_true, Bool.not_false, Int.ofNat_eq_natCast, den_and, den_add, den_sub, and_low, and_31, and_i31, wrap_u32, wrap_u64, wrap_i32, wrap_i64, wrap_i8, wrap_i16, vA a1 a3, vB a2 a3, v8 a1 a3, v16 a1 a3, ne_eq, not_true_eq_false, not_false_eq_true] at h0 h1 <;> omega
theorem o6 (a0 : 0 ≤ env 0) (b0 : env 0 ≤ 255) (a1 : 0 ≤ env 1) (a2 : 0 ≤ env 2) (a3 : 0 ≤ env 3) (h0 : e10.den env = true) (h1 : e11.den env = false) : False := by
  simp only [e10, e11, den_iff, BE.P, IE.den, Bool.not_true, Bool.not_false, Int.ofNat_eq_natCast, den_and, den_add, den_sub, and_low, and_31, and_i31, wrap_u32, wrap_u64, wrap_i32, wrap_i64, wrap_i8, wrap_i16, vA a1 a3, vB a2 a3, v8 a1 a3, v16 a1 a3, ne_eq, not_true_eq_false, not_false_eq_true] at h0 h1 <;> omega
theorem o7 (a0 : 0 ≤ env 0) (b0 : env 0 ≤ 255) (a1 : 0 ≤ env 1) (a2 : 0 ≤ env 2) (a3 : 0 ≤ env 3) (h0 : e10.den env = false) (h1 : e11.den env = true) : False := by
  simp only [e10, e11, den_iff, BE.P, IE.den, Bool.not_true, Bool.not_false, Int.ofNat_eq_natCast, den_and, den_add, den_sub, and_low, and_31, and_i31, wrap_u32, wrap_u64, wrap_i32, wrap_i64, wrap_i8, wrap_i16, vA a1 a3, vB a2 a3, v8 a1 a3, v16 a1 a3, ne_eq, not_true_eq_false, not_false_eq_true] at h0 h1 <;> omega
theorem o8 (a0 : 0 ≤ env 0) (b0 : env 0 ≤ 255) (a1 : 0 ≤ env 1) (a2 : 0 ≤ env 2) (a3 : 0 ≤ env 3) (h0 : e13.den env = true) (h1 : e14.den env = false) : False := by
  simp only [e13, e14, den_iff, BE.P, IE.den, Bool.not_true, Bool.not_false, Int.ofNat_eq_natCast, den_and, den_add, den_sub, and_low, and_31, and_i31, wrap_u32, wrap_u64, wrap_i32, wrap_i64, wrap_i8, wrap_i16, vA a1 a3, vB a2 a3, v8 a1 a3, v16 a1 a3, ne_eq, not_true_eq_false, not_false_eq_true] at h0 h1 <;> omega
theorem o9 (a0 : 0 ≤ env 0) (b0 : env 0 ≤ 255) (a1 : 0 ≤ env 1) (a2 : 0 ≤ env 2) (a3 : 0 ≤ env 3) (h0 : e13.den env = false) (h1 : e14.den env = true) : False := by
  simp only [e13, e14, den_iff, BE.P, IE.den, Bool.not_true, Bool.not_false, Int.ofNat_eq_natCast, den_and, den_add, den_sub, and_low, and_31, and_i31, wrap_u32, wrap_u64, wrap_i32, wrap_i64, wrap_i8, wrap_i16, vA a1 a3, vB a2 a3, v8 a1 a3, v16 a1 a3, ne_eq, not_true_eq_false, not_false_eq_true] at h0 h1 <;> omega
theorem o10 (a0 : 0 ≤ env 0) (b0 : env 0 ≤ 255) (a1 : 0 ≤ env 1) (a2 : 0 ≤ env 2) (a3 : 0 ≤ env 3) (h0 : e16.den env = true) (h1 : e17.den env = false) : False := by
  simp only [e16, e17, den_iff, BE.P, IE.den, Bool.not_true, Bool.not_false, Int.ofNat_eq_natCast, den_and, den_add, den_sub, and_low, and_31, and_i31, wrap_u32, wrap_u64, wrap_i32, wrap_i64, wrap_i8, wrap_i16, vA a1 a3, vB a2 a3, v8 a1 a3, v16 a1 a3, ne_eq, not_true_eq_false, not_false_eq_true] at h0 h1 <;> omega
theorem o11 (a0 : 0 ≤ env 0) (b0 : env 0 ≤ 255) (a1 : 0 ≤ env 1) (a2 : 0 ≤ env 2) (a3 : 0 ≤ env 3) (h0 : e16.den env = false) (h1 : e17.den env = true) : False := by
  simp only [e16, e17, den_iff, BE.P, IE.den, Bool.not_true, Bool.not_false, Int.ofNat_eq_natCast, den_and, den_add, den_sub, and_low, and_31, and_i31, wrap_u32, wrap_u64, wrap_i32, wrap_i64, wrap_i8, wrap_i16, vA a1 a3, vB a2 a3, v8 a1 a3, v16 a1 a3, ne_eq, not_true_eq_false, not_false_eq_true] at h0 h1 <;> omega
theorem o12 (a0 : 0 ≤ env 0) (b0 : env 0 ≤ 255) (a1 : 0 ≤ env 1) (a2 : 0 ≤ env 2) (a3 : 0 ≤ env 3) (h0 : e19.den env = true) (h1 : e20.den env = false) : False := by
  simp only [e19, e20, den_iff, BE.P, IE.den, Bool.not_true, Bool.not_false, Int.ofNat_eq_natCast, den_and, den_add, den_sub, and_low, and_31, and_i31, wrap_u32, wrap_u64, wrap_i32, wrap_i64, wrap_i8, wrap_i16, vA a1 a3, vB a2 a3, v8 a1 a3, v16 a1 a3, ne_eq, not_true_eq_false, not_false_eq_true] at h0 h1 <;> omega
theorem o13 (a0 : 0 ≤ env 0) (b0 : env 0 ≤ 255) (a1 : 0 ≤ env 1) (a2 : 0 ≤ env 2) (a3 : 0 ≤ env 3) (h0 : e19.den env = false) (h1 : e20.den env = true) : False := by
  simp only [e19, e20, den_iff, BE.P, IE.den, Bool.not_true, Bool.not_false, Int.ofNat_eq_natCast, den_and, den_add, den_sub, and_low, and_31, and_i31, wrap_u32, wrap_u64, wrap_i32, wrap_i64, wrap_i8, wrap_i16, vA a1 a3, vB a2 a3, v8 a1 a3, v16 a1 a3, ne_eq, not_true_eq_false, not_false_eq_true] at h0 h1 <;> omega
theorem o14 (a0 : 0 ≤ env 0) (b0 : env 0 ≤ 255) (a1 : 0 ≤ env 1) (a2 : 0 ≤ env 2) (a3 : 0 ≤ env 3) (h0 : e22.den env = true) (h1 : e23.den env = false) : False := by
  simp only [e22, e23, den_iff, BE.P, IE.den, Bool.not_true, Bool.not_false, Int.ofNat_eq_natCast, den_and, den_add, den_sub, and_low, and_31, and_i31, wrap_u32, wrap_u64, wrap_i32, wrap_i64, wrap_i8, wrap_i16, vA a1 a3, vB a2 a3, v8 a1 a3, v16 a1 a3, ne_eq, not_true_eq_false, not_false_eq_true] at h0 h1 <;> omega
theorem o15 (a0 : 0 ≤ env 0) (b0 : env 0 ≤ 255) (a1 : 0 ≤ env 1) (a2 : 0 ≤ env 2) (a3 : 0 ≤ env 3) (h0 : e22.den env = false) (h1 : e23.den env = true) : False := by
  simp only [e22, e23, den_iff, BE.P, IE.den, Bool.not_true, Bool.not_false, Int.ofNat_eq_natCast, den_and, den_add, den_sub, and_low, and_31, and_i31, wrap_u32, wrap_u64, wrap_i32, wrap_i64, wrap_i8, wrap_i16, vA a1 a3, vB a2 a3, v8 a1 a3, v16 a1 a3, ne_eq, not_true_eq_false, not_false_eq_true] at h0 h1 <;> omega
theorem o16 (a0 : 0 ≤ env 0) (b0 : env 0 ≤ 255) (a1 : 0 ≤ env 1) (a2 : 0 ≤ env 2) (a3 : 0 ≤ env 3) (h0 : e25.den env = true) (h1 : e26.den env = false) : False := by
  simp only [e25, e26, den_iff, BE.P, IE.den, Bool.not_true, Bool.not_false, Int.ofNat_eq_natCast, den_and, den_add, den_sub, and_low, and_31, and_i31, wrap_u32, wrap_u64, wrap_i32, wrap_i64, wrap_i8, wrap_i16, vA a1 a3, vB a2 a3, v8 a1 a3, v16 a1 a3, ne_eq, not_true_eq_false, not_false_eq_true] at h0 h1 <;> omega
theorem o17 (a0 : 0 ≤ env 0) (b0 : env 0 ≤ 255) (a1 : 0 ≤ env 1) (a2 : 0 ≤ env 2) (a3 : 0 ≤ env 3) (h0 : e25.den env = false) (h1 : e26.den env = true) : False := by
  simp only [e25, e26, den_iff, BE.P, IE.den, Bool.not_true, Bool.not_false, Int.ofNat_eq_natCast, den_and, den_add, den_sub, and_low, and_31, and_i31, wrap_u32, wrap_u64, wrap_i32, wrap_i64, wrap_i8, wrap_i16, vA a1 a3, vB a2 a3, v8 a1 a3, v16 a1 a3, ne_eq, not_true_eq_false, not_false_eq_true] at h0 h1 <;> omega
theorem o18 (a0 : 0 ≤ env 0) (b0 : env 0 ≤ 255) (a1 : 0 ≤ env 1) (a2 : 0 ≤ env 2) (a3 : 0 ≤ env 3) (h0 : e28.den env = true) (h1 : e29.den env = false) : False := by
  simp only [e28, e29, den_iff, BE.P, IE.den, Bool.not_true, Bool.not_false, Int.ofNat_eq_natCast, den_and, den_add, den_sub, and_low, and_31, and_i31, wrap_u32, wrap_u64, wrap_i32, wrap_i64, wrap_i8, wrap_i16, vA a1 a3, vB a2 a3, v8 a1 a3, v16 a1 a3, ne_eq, not_true_eq_false, not_false_eq_true] at h0 h1 <;> omega
theorem o19 (a0 : 0 ≤ env 0) (b0 : env 0 ≤ 255) (a1 : 0 ≤ env 1) (a2 : 0 ≤ env 2) (a3 : 0 ≤ env 3) (h0 : e28.den env = false) (h1 : e29.den env = true) : False := by
  simp only [e28, e29, den_iff, BE.P, IE.den, Bool.not_true, Bool.not_false, Int.ofNat_eq_natCast, den_and, den_add, den_sub, and_low, and_31, and_i31, wrap_u32, wrap_u64, wrap_i32, wrap_i64, wrap_i8, wrap_i16, vA a1 a3, vB a2 a3, v8 a1 a3, v16 a1 a3, ne_eq, not_true_eq_false, not_false_eq_true] at h0 h1 <;> omega
theorem o20 (a0 : 0 ≤ env 0) (b0 : env 0 ≤ 255) (a1 : 0 ≤ env 1) (a2 : 0 ≤ env 2) (a3 : 0 ≤ env 3) (h0 : e31.den env = true) (h1 : e32.den env = false) : False := by
  simp only [e31, e32, den_iff, BE.P, IE.den, Bool.not_true, Bool.not_false, Int.ofNat_eq_natCast, den_and, den_add, den_sub, and_low, and_31, and_i31, wrap_u32, wrap_u64, wrap_i32, wrap_i64, wrap_i8, wrap_i16, vA a1 a3, vB a2 a3, v8 a1 a3, v16 a1 a3, ne_eq, not_true_eq_false, not_false_eq_true] at h0 h1 <;> omega
theorem o21 (a0 : 0 ≤ env 0) (b0 : env 0 ≤ 255) (a1 : 0 ≤ env 1) (a2 : 0 ≤ env 2) (a3 : 0 ≤ env 3) (h0 : e31.den env = false) (h1 : e32.den env = true) : False := by
  simp only [e31, e32, den_iff, BE.P, IE.den, Bool.not_true, Bool.not_false, Int.ofNat_eq_natCast, den_and, den_add, den_sub, and_low, and_31, and_i31, wrap_u32, wrap_u64, wrap_i32, wrap_i64, wrap_i8, wrap_i16, vA a1 a3, vB a2 a3, v8 a1 a3, v16 a1 a3, ne_eq, not_true_eq_false, not_false_eq_true] at h0 h1 <;> omega
theorem o22 (a0 : 0 ≤ env 0) (b0 : env 0 ≤ 255) (a1 : 0 ≤ env 1) (a2 : 0 ≤ env 2) (a3 : 0 ≤ env 3) (h0 : e34.den env = true) (h1 : e35.den env = false) : False := by
  have q := lzB .u32 (env 1 % 4294967296) ((0 : Nat) : Int)
  simp only [e34, e35, den_iff, BE.P, IE.den, Bool.not_true, Bool.not_false, Int.ofNat_eq_natCast, den_and, den_add, den_sub, and_low, and_31, and_i31, wrap_u32, wrap_u64, wrap_i32, wrap_i64, wrap_i8, wrap_i16, vA a1 a3, vB a2 a3, v8 a1 a3, v16 a1 a3, ne_eq, not_true_eq_false, not_false_eq_true] at h0 h1 <;> omega
theorem o23 (a0 : 0 ≤ env 0) (b0 : env 0 ≤ 255) (a1 : 0 ≤ env 1) (a2 : 0 ≤ env 2) (a3 : 0 ≤ env 3) (h0 : e34.den env = false) : False := by
  have q := lzB .u32 (env 1 % 4294967296) ((0 : Nat) : Int)
  simp only [e34, den_iff, BE.P, IE.den, Bool.not_true, Bool.not_false, Int.ofNat_eq_natCast, den_and, den_add, den_sub, and_low, and_31, and_i31, wrap_u32, wrap_u64, wrap_i32, wrap_i64, wrap_i8, wrap_i16, vA a1 a3, vB a2 a3, v8 a1 a3, v16 a1 a3, ne_eq, not_true_eq_false, not_false_eq_true] at h0 <;> omega
theorem o24 (a0 : 0 ≤ env 0) (b0 : env 0 ≤ 255) (a1 : 0 ≤ env 1) (a2 : 0 ≤ env 2) (a3 : 0 ≤ env 3) (h0 : e37.den env = true) (h1 : e38.den env = false) : False := by
  have q := tzB .u32 (env 1 % 4294967296) ((0 : Nat) : Int)
  simp only [e37, e38, den_iff, BE.P, IE.den, Bool.not_true, Bool.not_false, Int.ofNat_eq_natCast, den_and, den_add, den_sub, and_low, and_31, and_i31, wrap_u32, wrap_u64, wrap_i32, wrap_i64, wrap_i8, wrap_i16, vA a1 a3, vB a2 a3, v8 a1 a3, v16 a1 a3, ne_eq, not_true_eq_false, not_false_eq_true] at h0 h1 <;> omega
theorem o25 (a0 : 0 ≤ env 0) (b0 : env 0 ≤ 255) (a1 : 0 ≤ env 1) (a2 : 0 ≤ env 2) (a3 : 0 ≤ env 3) (h0 : e37.den env = false) : False := by
  have q := tzB .u32 (env 1 % 4294967296) ((0 : Nat) : Int)
  simp only [e37, den_iff, BE.P, IE.den, Bool.not_true, Bool.not_false, Int.ofNat_eq_natCast, den_and, den_add, den_sub, and_low, and_31, and_i31, wrap_u32, wrap_u64, wrap_i32, wrap_i64, wrap_i8, wrap_i16, vA a1 a3, vB a2 a3, v8 a1 a3, v16 a1 a3, ne_eq, not_true_eq_false, not_false_eq_true] at h0 <;> omega
theorem o26 (a0 : 0 ≤ env 0) (b0 : env 0 ≤ 255) (a1 : 0 ≤ env 1) (a2 : 0 ≤ env 2) (a3 : 0 ≤ env 3) (h0 : e40.den env = true) (h1 : e41.den env = false) : False := by
  have q := popB .u32 (env 1 % 4294967296) ((0 : Nat) : Int)
  simp only [e40, e41, den_iff, BE.P, IE.den, Bool.not_true, Bool.not_false, Int.ofNat_eq_natCast, den_and, den_add, den_sub, and_low, and_31, and_i31, wrap_u32, wrap_u64, wrap_i32, wrap_i64, wrap_i8, wrap_i16, vA a1 a3, vB a2 a3, v8 a1 a3, v16 a1 a3, ne_eq, not_true_eq_false, not_false_eq_true] at h0 h1 <;> omega
theorem o27 (a0 : 0 ≤ env 0) (b0 : env 0 ≤ 255) (a1 : 0 ≤ env 1) (a2 : 0 ≤ env 2) (a3 : 0 ≤ env 3) (h0 : e40.den env = false) : False := by
  have q := popB .u32 (env 1 % 4294967296) ((0 : Nat) : Int)
  simp only [e40, den_iff, BE.P, IE.den, Bool.not_true, Bool.not_false, Int.ofNat_eq_natCast, den_and, den_add, den_sub, and_low, and_31, and_i31, wrap_u32, wrap_u64, wrap_i32, wrap_i64, wrap_i8, wrap_i16, vA a1 a3, vB a2 a3, v8 a1 a3, v16 a1 a3, ne_eq, not_true_eq_false, not_false_eq_true] at h0 <;> omega
theorem t28 (a0 : 0 ≤ env 0) (b0 : env 0 ≤ 255) (a1 : 0 ≤ env 1) (a2 : 0 ≤ env 2) (a3 : 0 ≤ env 3) : BE.den env (.lt (.bin .and .u64 (.wrap .u64 (.bin .add .u64 (.bin .and .u64 (.v 1) (.c (.ofNat 4294967295))) (.bin .and .u64 (.v 2) (.c (.ofNat 4294967295))))) (.c (.ofNat 4294967295))) (.c (.ofNat 4294967296))) = true := by
  simp only [den_iff, BE.P, IE.den, Bool.not_true, Bool.not_false, Int.ofNat_eq_natCast, den_and, den_add, den_sub, and_low, and_31, and_i31, wrap_u32, wrap_u64, wrap_i32, wrap_i64, wrap_i8, wrap_i16, vA a1 a3, vB a2 a3, v8 a1 a3, v16 a1 a3, ne_eq, not_true_eq_false, not_false_eq_true]
  omega
theorem o29 (a0 : 0 ≤ env 0) (b0 : env 0 ≤ 255) (a1 : 0 ≤ env 1) (a2 : 0 ≤ env 2) (a3 : 0 ≤ env 3) (h0 : e43.den env = false) : False := by
  simp only [e43, den_iff, BE.P, IE.den, Bool.not_true, Bool.not_false, Int.ofNat_eq_natCast, den_and, den_add, den_sub, and_low, and_31, and_i31, wrap_u32, wrap_u64, wrap_i32, wrap_i64, wrap_i8, wrap_i16, vA a1 a3, vB a2 a3, v8 a1 a3, v16 a1 a3, ne_eq, not_true_eq_false, not_false_eq_true] at h0 <;> omega
theorem t30 (a0 : 0 ≤ env 0) (b0 : env 0 ≤ 255) (a1 : 0 ≤ env 1) (a2 : 0 ≤ env 2) (a3 : 0 ≤ env 3) : BE.den env (.lt (.bin .and .u64 (.wrap .u64 (.bin .sub .u64 (.bin .and .u64 (.v 1) (.c (.ofNat 4294967295))) (.bin .and .u64 (.v 2) (.c (.ofNat 4294967295))))) (.c (.ofNat 4294967295))) (.c (.ofNat 4294967296))) = true := by
  simp only [den_iff, BE.P, IE.den, Bool.not_true, Bool.not_false, Int.ofNat_eq_natCast, den_and, den_add, den_sub, and_low, and_31, and_i31, wrap_u32, wrap_u64, wrap_i32, wrap_i64, wrap_i8, wrap_i16, vA a1 a3, vB a2 a3, v8 a1 a3, v16 a1 a3, ne_eq, not_true_eq_false, not_false_eq_true]
  omega
theorem o31 (a0 : 0 ≤ env 0) (b0 : env 0 ≤ 255) (a1 : 0 ≤ env 1) (a2 : 0 ≤ env 2) (a3 : 0 ≤ env 3) (h0 : e45.den env = false) : False := by
  simp only [e45, den_iff, BE.P, IE.den, Bool.not_true, Bool.not_false, Int.ofNat_eq_natCast, den_and, den_add, den_sub, and_low, and_31, and_i31, wrap_u32, wrap_u64, wrap_i32, wrap_i64, wrap_i8, wrap_i16, vA a1 a3, vB a2 a3, v8 a1 a3, v16 a1 a3, ne_eq, not_true_eq_false, not_false_eq_true] at h0 <;> omega
theorem t32 (a0 : 0 ≤ env 0) (b0 : env 0 ≤ 255) (a1 : 0 ≤ env 1) (a2 : 0 ≤ env 2) (a3 : 0 ≤ env 3) : BE.den env (.lt (.bin .and .u64 (.wrap .u64 (.bin .mul .u64 (.bin .and .u64 (.v 1) (.c (.ofNat 4294967295))) (.bin .and .u64 (.v 2) (.c (.ofNat 4294967295))))) (.c (.ofNat 4294967295))) (.c (.ofNat 4294967296))) = true := by
  simp only [den_iff, BE.P, IE.den, Bool.not_true, Bool.not_false, Int.ofNat_eq_natCast, den_and, den_add, den_sub, and_low, and_31, and_i31, wrap_u32, wrap_u64, wrap_i32, wrap_i64, wrap_i8, wrap_i16, vA a1 a3, vB a2 a3, v8 a1 a3, v16 a1 a3, ne_eq, not_true_eq_false, not_false_eq_true]
  omega
theorem o33 (a0 : 0 ≤ env 0) (b0 : env 0 ≤ 255) (a1 : 0 ≤ env 1) (a2 : 0 ≤ env 2) (a3 : 0 ≤ env 3) (h0 : e47.den env = false) : False := by
  simp only [e47, den_iff, BE.P, IE.den, Bool.not_true, Bool.not_false, Int.ofNat_eq_natCast, den_and, den_add, den_sub, and_low, and_31, and_i31, wrap_u32, wrap_u64, wrap_i32, wrap_i64, wrap_i8, wrap_i16, vA a1 a3, vB a2 a3, v8 a1 a3, v16 a1 a3, ne_eq, not_true_eq_false, not_false_eq_true] at h0 <;> omega
theorem o34 (a0 : 0 ≤ env 0) (b0 : env 0 ≤ 255) (a1 : 0 ≤ env 1) (a2 : 0 ≤ env 2) (a3 : 0 ≤ env 3) (h0 : e49.den env = true) (h1 : e50.den env = true) (h2 : e51.den env = true) (h3 : e52.den env = false) (h4 : e53.den env = false) (h5 : e54.den env = true) : False := by
  simp only [e49, e50, e51, e52, e53, e54, den_iff, BE.P, IE.den, Bool.not_true, Bool.not_false, Int.ofNat_eq_natCast, den_and, den_add, den_sub, and_low, and_31, and_i31, wrap_u32, wrap_u64, wrap_i32, wrap_i64, wrap_i8, wrap_i16, vA a1 a3, vB a2 a3, v8 a1 a3, v16 a1 a3, ne_eq, not_true_eq_false, not_false_eq_true] at h0 h1 h2 h3 h4 h5 <;> omega
theorem o35 (a0 : 0 ≤ env 0) (b0 : env 0 ≤ 255) (a1 : 0 ≤ env 1) (a2 : 0 ≤ env 2) (a3 : 0 ≤ env 3) (h0 : e49.den env = true) (h1 : e50.den env = true) (h2 : e51.den env = true) (h3 : e52.den env = false) (h4 : e53.den env = false) (h5 : e54.den env = false) : False := by
  simp only [e49, e50, e51, e52, e53, e54, den_iff, BE.P, IE.den, Bool.not_true, Bool.not_false, Int.ofNat_eq_natCast, den_and, den_add, den_sub, and_low, and_31, and_i31, wrap_u32, wrap_u64, wrap_i32, wrap_i64, wrap_i8, wrap_i16, vA a1 a3, vB a2 a3, v8 a1 a3, v16 a1 a3, ne_eq, not_true_eq_false, not_false_eq_true] at h0 h1 h2 h3 h4 h5 <;> omega
theorem o36 (a0 : 0 ≤ env 0) (b0 : env 0 ≤ 255) (a1 : 0 ≤ env 1) (a2 : 0 ≤ env 2) (a3 : 0 ≤ env 3) (h0 : e49.den env = true) (h1 : e50.den env = true) (h2 : e51.den env = false) (h3 : e52.den env = false) (h4 : e55.den env = true) : False := by
  simp only [e49, e50, e51, e52, e55, den_iff, BE.P, IE.den, Bool.not_true, Bool.not_false, Int.ofNat_eq_natCast, den_and, den_add, den_sub, and_low, and_31, and_i31, wrap_u32, wrap_u64, wrap_i32, wrap_i64, wrap_i8, wrap_i16, vA a1 a3, vB a2 a3, v8 a1 a3, v16 a1 a3, ne_eq, not_true_eq_false, not_false_eq_true] at h0 h1 h2 h3 h4 <;> omega
theorem o37 (a0 : 0 ≤ env 0) (b0 : env 0 ≤ 255) (a1 : 0 ≤ env 1) (a2 : 0 ≤ env 2) (a3 : 0 ≤ env 3) (h0 : e49.den env = true) (h1 : e50.den env = true) (h2 : e51.den env = false) (h3 : e52.den env = false) (h4 : e55.den env = false) (h5 : e56.den env = true) : False := by
  simp only [e49, e50, e51, e52, e55, e56, den_iff, BE.P, IE.den, Bool.not_true, Bool.not_false, Int.ofNat_eq_natCast, den_and, den_add, den_sub, and_low, and_31, and_i31, wrap_u32, wrap_u64, wrap_i32, wrap_i64, wrap_i8, wrap_i16, vA a1 a3, vB a2 a3, v8 a1 a3, v16 a1 a3, ne_eq, not_true_eq_false, not_false_eq_true] at h0 h1 h2 h3 h4 h5 <;> omega
theorem o38 (a0 : 0 ≤ env 0) (b0 : env 0 ≤ 255) (a1 : 0 ≤ env 1) (a2 : 0 ≤ env 2) (a3 : 0 ≤ env 3) (h0 : e49.den env = true) (h1 : e50.den env = true) (h2 : e51.den env = false) (h3 : e52.den env = false) (h4 : e55.den env = false) (h5 : e56.den env = false) : False := by
  simp only [e49, e50, e51, e52, e55, e56, den_iff, BE.P, IE.den, Bool.not_true, Bool.not_false, Int.ofNat_eq_natCast, den_and, den_add, den_sub, and_low, and_31, and_i31, wrap_u32, wrap_u64, wrap_i32, wrap_i64, wrap_i8, wrap_i16, vA a1 a3, vB a2 a3, v8 a1 a3, v16 a1 a3, ne_eq, not_true_eq_false, not_false_eq_true] at h0 h1 h2 h3 h4 h5 <;> omega
theorem o39 (a0 : 0 ≤ env 0) (b0 : env 0 ≤ 255) (a1 : 0 ≤ env 1) (a2 : 0 ≤ env 2) (a3 : 0 ≤ env 3) (h0 : e49.den env = true) (h1 : e50.den env = false) (h2 : e57.den env = true) (h3 : e51.den env = true) (h4 : e52.den env = false) (h5 : e53.den env = false) (h6 : e54.den env = true) : False := by
  simp only [e49, e50, e57, e51, e52, e53, e54, den_iff, BE.P, IE.den, Bool.not_true, Bool.not_false, Int.ofNat_eq_natCast, den_and, den_add, den_sub, and_low, and_31, and_i31, wrap_u32, wrap_u64, wrap_i32, wrap_i64, wrap_i8, wrap_i16, vA a1 a3, vB a2 a3, v8 a1 a3, v16 a1 a3, ne_eq, not_true_eq_false, not_false_eq_true] at h0 h1 h2 h3 h4 h5 h6 <;> omega
theorem o40 (a0 : 0 ≤ env 0) (b0 : env 0 ≤ 255) (a1 : 0 ≤ env 1) (a2 : 0 ≤ env 2) (a3 : 0 ≤ env 3) (h0 : e49.den env = true) (h1 : e50.den env = false) (h2 : e57.den env = true) (h3 : e51.den env = true) (h4 : e52.den env = false) (h5 : e53.den env = false) (h6 : e54.den env = false) : False := by
  simp only [e49, e50, e57, e51, e52, e53, e54, den_iff, BE.P, IE.den, Bool.not_true, Bool.not_false, Int.ofNat_eq_natCast, den_and, den_add, den_sub, and_low, and_31, and_i31, wrap_u32, wrap_u64, wrap_i32, wrap_i64, wrap_i8, wrap_i16, vA a1 a3, vB a2 a3, v8 a1 a3, v16 a1 a3, ne_eq, not_true_eq_false, not_false_eq_true] at h0 h1 h2 h3 h4 h5 h6 <;> omega
theorem o41 (a0 : 0 ≤ env 0) (b0 : env 0 ≤ 255) (a1 : 0 ≤ env 1) (a2 : 0 ≤ env 2) (a3 : 0 ≤ env 3) (h0 : e49.den env = true) (h1 : e50.den env = false) (h2 : e57.den env = true) (h3 : e51.den env = false) (h4 : e52.den env = false) (h5 : e55.den env = true) : False := by
  simp only [e49, e50, e57, e51, e52, e55, den_iff, BE.P, IE.den, Bool.not_true, Bool.not_false, Int.ofNat_eq_natCast, den_and, den_add, den_sub, and_low, and_31, and_i31, wrap_u32, wrap_u64, wrap_i32, wrap_i64, wrap_i8, wrap_i16, vA a1 a3, vB a2 a3, v8 a1 a3, v16 a1 a3, ne_eq, not_true_eq_false, not_false_eq_true] at h0 h1 h2 h3 h4 h5 <;> omega
theorem o42 (a0 : 0 ≤ env 0) (b0 : env 0 ≤ 255) (a1 : 0 ≤ env 1) (a2 : 0 ≤ env 2) (a3 : 0 ≤ env 3) (h0 : e49.den env = true) (h1 : e50.den env = false) (h2 : e57.den env = true) (h3 : e51.den env = false) (h4 : e52.den env = false) (h5 : e55.den env = false) (h6 : e56.den env = true) : False := by
  simp only [e49, e50, e57, e51, e52, e55, e56, den_iff, BE.P, IE.den, Bool.not_true, Bool.not_false, Int.ofNat_eq_natCast, den_and, den_add, den_sub, and_low, and_31, and_i31, wrap_u32, wrap_u64, wrap_i32, wrap_i64, wrap_i8, wrap_i16, vA a1 a3, vB a2 a3, v8 a1 a3, v16 a1 a3, ne_eq, not_true_eq_false, not_false_eq_true] at h0 h1 h2 h3 h4 h5 h6 <;> omega
theorem o43 (a0 : 0 ≤ env 0) (b0 : env 0 ≤ 255) (a1 : 0 ≤ env 1) (a2 : 0 ≤ env 2) (a3 : 0 ≤ env 3) (h0 : e49.den env = true) (h1 : e50.den env = false) (h2 : e57.den env = true) (h3 : e51.den env = false) (h4 : e52.den env = false) (h5 : e55.den env = false) (h6 : e56.den env = false) : False := by
  simp only [e49, e50, e57, e51, e52, e55, e56, den_iff, BE.P, IE.den, Bool.not_true, Bool.not_false, Int.ofNat_eq_natCast, den_and, den_add, den_sub, and_low, and_31, and_i31, wrap_u32, wrap_u64, wrap_i32, wrap_i64, wrap_i8, wrap_i16, vA a1 a3, vB a2 a3, v8 a1 a3, v16 a1 a3, ne_eq, not_true_eq_false, not_false_eq_true] at h0 h1 h2 h3 h4 h5 h6 <;> omega
theorem o44 (a0 : 0 ≤ env 0) (b0 : env 0 ≤ 255) (a1 : 0 ≤ env 1) (a2 : 0 ≤ env 2) (a3 : 0 ≤ env 3) (h0 : e49.den env = true) (h1 : e50.den env = false) (h2 : e57.den env = false) (h3 : e51.den env = true) (h4 : e52.den env = true) (h5 : e58.den env = true) : False := by
  simp only [e49, e50, e57, e51, e52, e58, den_iff, BE.P, IE.den, Bool.not_true, Bool.not_false, Int.ofNat_eq_natCast, den_and, den_add, den_sub, and_low, and_31, and_i31, wrap_u32, wrap_u64, wrap_i32, wrap_i64, wrap_i8, wrap_i16, vA a1 a3, vB a2 a3, v8 a1 a3, v16 a1 a3, ne_eq, not_true_eq_false, not_false_eq_true] at h0 h1 h2 h3 h4 h5 <;> omega
theorem o45 (a0 : 0 ≤ env 0) (b0 : env 0 ≤ 255) (a1 : 0 ≤ env 1) (a2 : 0 ≤ env 2) (a3 : 0 ≤ env 3) (h0 : e49.den env = true) (h1 : e50.den env = false) (h2 : e57.den env = false) (h3 : e51.den env = true) (h4 : e52.den env = true) (h5 : e58.den env = false) : False := by
  simp only [e49, e50, e57, e51, e52, e58, den_iff, BE.P, IE.den, Bool.not_true, Bool.not_false, Int.ofNat_eq_natCast, den_and, den_add, den_sub, and_low, and_31, and_i31, wrap_u32, wrap_u64, wrap_i32, wrap_i64, wrap_i8, wrap_i16, vA a1 a3, vB a2 a3, v8 a1 a3, v16 a1 a3, ne_eq, not_true_eq_false, not_false_eq_true] at h0 h1 h2 h3 h4 h5 <;> omega
theorem o46 (a0 : 0 ≤ env 0) (b0 : env 0 ≤ 255) (a1 : 0 ≤ env 1) (a2 : 0 ≤ env 2) (a3 : 0 ≤ env 3) (h0 : e49.den env = true) (h1 : e50.den env = false) (h2 : e57.den env = false) (h3 : e51.den env = true) (h4 : e52.den env = false) (h5 : e53.den env = true) (h6 : e58.den env = true) : False := by
  simp only [e49, e50, e57, e51, e52, e53, e58, den_iff, BE.P, IE.den, Bool.not_true, Bool.not_false, Int.ofNat_eq_natCast, den_and, den_add, den_sub, and_low, and_31, and_i31, wrap_u32, wrap_u64, wrap_i32, wrap_i64, wrap_i8, wrap_i16, vA a1 a3, vB a2 a3, v8 a1 a3, v16 a1 a3, ne_eq, not_true_eq_false, not_false_eq_true] at h0 h1 h2 h3 h4 h5 h6 <;> omega
theorem o47 (a0 : 0 ≤ env 0) (b0 : env 0 ≤ 255) (a1 : 0 ≤ env 1) (a2 : 0 ≤ env 2) (a3 : 0 ≤ env 3) (h0 : e49.den env = true) (h1 : e50.den env = false) (h2 : e57.den env = false) (h3 : e51.den env = true) (h4 : e52.den env = false) (h5 : e53.den env = true) (h6 : e58.den env = false) : False := by
  simp only [e49, e50, e57, e51, e52, e53, e58, den_iff, BE.P, IE.den, Bool.not_true, Bool.not_false, Int.ofNat_eq_natCast, den_and, den_add, den_sub, and_low, and_31, and_i31, wrap_u32, wrap_u64, wrap_i32, wrap_i64, wrap_i8, wrap_i16, vA a1 a3, vB a2 a3, v8 a1 a3, v16 a1 a3, ne_eq, not_true_eq_false, not_false_eq_true] at h0 h1 h2 h3 h4 h5 h6 <;> omega
theorem t48 (a0 : 0 ≤ env 0) (b0 : env 0 ≤ 255) (a1 : 0 ≤ env 1) (a2 : 0 ≤ env 2) (a3 : 0 ≤ env 3) : BE.den env (.lt (.bin .and .u64 (.wrap .u64 (.wrap .i64 (.bin .tdiv .i64 (.wrap .i64 (.wrap .i32 (.bin .and .u64 (.v 1) (.c (.ofNat 4294967295))))) (.c (.negSucc 0))))) (.c (.ofNat 4294967295))) (.c (.ofNat 4294967296))) = true := by
  simp only [den_iff, BE.P, IE.den, Bool.not_true, Bool.not_false, Int.ofNat_eq_natCast, den_and, den_add, den_sub, and_low, and_31, and_i31, wrap_u32, wrap_u64, wrap_i32, wrap_i64, wrap_i8, wrap_i16, vA a1 a3, vB a2 a3, v8 a1 a3, v16 a1 a3, ne_eq, not_true_eq_false, not_false_eq_true]
  omega
theorem o49 (a0 : 0 ≤ env 0) (b0 : env 0 ≤ 255) (a1 : 0 ≤ env 1) (a2 : 0 ≤ env 2) (a3 : 0 ≤ env 3) (h0 : e49.den env = true) (h1 : e50.den env = false) (h2 : e57.den env = false) (h3 : e51.den env = true) (h4 : e52.den env = false) (h5 : e53.den env = false) (h6 : e59.den env = false) : False := by
  simp only [e49, e50, e57, e51, e52, e53, e59, den_iff, BE.P, IE.den, Bool.not_true, Bool.not_false, Int.ofNat_eq_natCast, den_and, den_add, den_sub, and_low, and_31, and_i31, wrap_u32, wrap_u64, wrap_i32, wrap_i64, wrap_i8, wrap_i16, vA a1 a3, vB a2 a3, v8 a1 a3, v16 a1 a3, ne_eq, not_true_eq_false, not_false_eq_true] at h0 h1 h2 h3 h4 h5 h6 <;> omega
theorem o50 (a0 : 0 ≤ env 0) (b0 : env 0 ≤ 255) (a1 : 0 ≤ env 1) (a2 : 0 ≤ env 2) (a3 : 0 ≤ env 3) (h0 : e49.den env = true) (h1 : e50.den env = false) (h2 : e57.den env = false) (h3 : e51.den env = false) (h4 : e52.den env = true) (h5 : e58.den env = true) : False := by
  simp only [e49, e50, e57, e51, e52, e58, den_iff, BE.P, IE.den, Bool.not_true, Bool.not_false, Int.ofNat_eq_natCast, den_and, den_add, den_sub, and_low, and_31, and_i31, wrap_u32, wrap_u64, wrap_i32, wrap_i64, wrap_i8, wrap_i16, vA a1 a3, vB a2 a3, v8 a1 a3, v16 a1 a3, ne_eq, not_true_eq_false, not_false_eq_true] at h0 h1 h2 h3 h4 h5 <;> omega
theorem o51 (a0 : 0 ≤ env 0) (b0 : env 0 ≤ 255) (a1 : 0 ≤ env 1) (a2 : 0 ≤ env 2) (a3 : 0 ≤ env 3) (h0 : e49.den env = true) (h1 : e50.den env = false) (h2 : e57.den env = false) (h3 : e51.den env = false) (h4 : e52.den env = true) (h5 : e58.den env = false) : False := by
  simp only [e49, e50, e57, e51, e52, e58, den_iff, BE.P, IE.den, Bool.not_true, Bool.not_false, Int.ofNat_eq_natCast, den_and, den_add, den_sub, and_low, and_31, and_i31, wrap_u32, wrap_u64, wrap_i32, wrap_i64, wrap_i8, wrap_i16, vA a1 a3, vB a2 a3, v8 a1 a3, v16 a1 a3, ne_eq, not_true_eq_false, not_false_eq_true] at h0 h1 h2 h3 h4 h5 <;> omega
theorem o52 (a0 : 0 ≤ env 0) (b0 : env 0 ≤ 255) (a1 : 0 ≤ env 1) (a2 : 0 ≤ env 2) (a3 : 0 ≤ env 3) (h0 : e49.den env = true) (h1 : e50.den env = false) (h2 : e57.den env = false) (h3 : e51.den env = false) (h4 : e52.den env = false) (h5 : e55.den env = true) : False := by
  simp only [e49, e50, e57, e51, e52, e55, den_iff, BE.P, IE.den, Bool.not_true, Bool.not_false, Int.ofNat_eq_natCast, den_and, den_add, den_sub, and_low, and_31, and_i31, wrap_u32, wrap_u64, wrap_i32, wrap_i64, wrap_i8, wrap_i16, vA a1 a3, vB a2 a3, v8 a1 a3, v16 a1 a3, ne_eq, not_true_eq_false, not_false_eq_true] at h0 h1 h2 h3 h4 h5 <;> omega
theorem t53 (a0 : 0 ≤ env 0) (b0 : env 0 ≤ 255) (a1 : 0 ≤ env 1) (a2 : 0 ≤ env 2) (a3 : 0 ≤ env 3) : BE.den env (.lt (.bin .and .u64 (.wrap .u64 (.wrap .i64 (.bin .tdiv .i64 (.wrap .i64 (.wrap .i32 (.bin .and .u64 (.v 1) (.c (.ofNat 4294967295))))) (.c (.negSucc 0))))) (.c (.ofNat 4294967295))) (.c (.ofNat 4294967296))) = true := by
  simp only [den_iff, BE.P, IE.den, Bool.not_true, Bool.not_false, Int.ofNat_eq_natCast, den_and, den_add, den_sub, and_low, and_31, and_i31, wrap_u32, wrap_u64, wrap_i32, wrap_i64, wrap_i8, wrap_i16, vA a1 a3, vB a2 a3, v8 a1 a3, v16 a1 a3, ne_eq, not_true_eq_false, not_false_eq_true]
  omega
theorem o54 (a0 : 0 ≤ env 0) (b0 : env 0 ≤ 255) (a1 : 0 ≤ env 1) (a2 : 0 ≤ env 2) (a3 : 0 ≤ env 3) (h0 : e49.den env = true) (h1 : e50.den env = false) (h2 : e57.den env = false) (h3 : e51.den env = false) (h4 : e52.den env = false) (h5 : e55.den env = false) (h6 : e60.den env = false) : False := by
  simp only [e49, e50, e57, e51, e52, e55, e60, den_iff, BE.P, IE.den, Bool.not_true, Bool.not_false, Int.ofNat_eq_natCast, den_and, den_add, den_sub, and_low, and_31, and_i31, wrap_u32, wrap_u64, wrap_i32, wrap_i64, wrap_i8, wrap_i16, vA a1 a3, vB a2 a3, v8 a1 a3, v16 a1 a3, ne_eq, not_true_eq_false, not_false_eq_true] at h0 h1 h2 h3 h4 h5 h6 <;> omega
theorem o55 (a0 : 0 ≤ env 0) (b0 : env 0 ≤ 255) (a1 : 0 ≤ env 1) (a2 : 0 ≤ env 2) (a3 : 0 ≤ env 3) (h0 : e49.den env = false) (h1 : e50.den env = true) (h2 : e51.den env = true) (h3 : e52.den env = false) (h4 : e53.den env = false) (h5 : e54.den env = true) : False := by
  simp only [e49, e50, e51, e52, e53, e54, den_iff, BE.P, IE.den, Bool.not_true, Bool.not_false, Int.ofNat_eq_natCast, den_and, den_add, den_sub, and_low, and_31, and_i31, wrap_u32, wrap_u64, wrap_i32, wrap_i64, wrap_i8, wrap_i16, vA a1 a3, vB a2 a3, v8 a1 a3, v16 a1 a3, ne_eq, not_true_eq_false, not_false_eq_true] at h0 h1 h2 h3 h4 h5 <;> omega
theorem o56 (a0 : 0 ≤ env 0) (b0 : env 0 ≤ 255) (a1 : 0 ≤ env 1) (a2 : 0 ≤ env 2) (a3 : 0 ≤ env 3) (h0 : e49.den env = false) (h1 : e50.den env = true) (h2 : e51.den env = true) (h3 : e52.den env = false) (h4 : e53.den env = false) (h5 : e54.den env = false) : False := by
  simp only [e49, e50, e51, e52, e53, e54, den_iff, BE.P, IE.den, Bool.not_true, Bool.not_false, Int.ofNat_eq_natCast, den_and, den_add, den_sub, and_low, and_31, and_i31, wrap_u32, wrap_u64, wrap_i32, wrap_i64, wrap_i8, wrap_i16, vA a1 a3, vB a2 a3, v8 a1 a3, v16 a1 a3, ne_eq, not_true_eq_false, not_false_eq_true] at h0 h1 h2 h3 h4 h5 <;> omega
theorem o57 (a0 : 0 ≤ env 0) (b0 : env 0 ≤ 255) (a1 : 0 ≤ env 1) (a2 : 0 ≤ env 2) (a3 : 0 ≤ env 3) (h0 : e49.den env = false) (h1 : e50.den env = true) (h2 : e51.den env = false) (h3 : e52.den env = false) (h4 : e55.den env = true) : False := by
  simp only [e49, e50, e51, e52, e55, den_iff, BE.P, IE.den, Bool.not_true, Bool.not_false, Int.ofNat_eq_natCast, den_and, den_add, den_sub, and_low, and_31, and_i31, wrap_u32, wrap_u64, wrap_i32, wrap_i64, wrap_i8, wrap_i16, vA a1 a3, vB a2 a3, v8 a1 a3, v16 a1 a3, ne_eq, not_true_eq_false, not_false_eq_true] at h0 h1 h2 h3 h4 <;> omega
theorem o58 (a0 : 0 ≤ env 0) (b0 : env 0 ≤ 255) (a1 : 0 ≤ env 1) (a2 : 0 ≤ env 2) (a3 : 0 ≤ env 3) (h0 : e49.den env = false) (h1 : e50.den env = true) (h2 : e51.den env = false) (h3 : e52.den env = false) (h4 : e55.den env = false) (h5 : e56.den env = true) : False := by
  simp only [e49, e50, e51, e52, e55, e56, den_iff, BE.P, IE.den, Bool.not_true, Bool.not_false, Int.ofNat_eq_natCast, den_and, den_add, den_sub, and_low, and_31, and_i31, wrap_u32, wrap_u64, wrap_i32, wrap_i64, wrap_i8, wrap_i16, vA a1 a3, vB a2 a3, v8 a1 a3, v16 a1 a3, ne_eq, not_true_eq_false, not_false_eq_true] at h0 h1 h2 h3 h4 h5 <;> omega
theorem o59 (a0 : 0 ≤ env 0) (b0 : env 0 ≤ 255) (a1 : 0 ≤ env 1) (a2 : 0 ≤ env 2) (a3 : 0 ≤ env 3) (h0 : e49.den env = false) (h1 : e50.den env = true) (h2 : e51.den env = false) (h3 : e52.den env = false) (h4 : e55.den env = false) (h5 : e56.den env = false) : False := by
  simp only [e49, e50, e51, e52, e55, e56, den_iff, BE.P, IE.den, Bool.not_true, Bool.not_false, Int.ofNat_eq_natCast, den_and, den_add, den_sub, and_low, and_31, and_i31, wrap_u32, wrap_u64, wrap_i32, wrap_i64, wrap_i8, wrap_i16, vA a1 a3, vB a2 a3, v8 a1 a3, v16 a1 a3, ne_eq, not_true_eq_false, not_false_eq_true] at h0 h1 h2 h3 h4 h5 <;> omega
theorem o60 (a0 : 0 ≤ env 0) (b0 : env 0 ≤ 255) (a1 : 0 ≤ env 1) (a2 : 0 ≤ env 2) (a3 : 0 ≤ env 3) (h0 : e49.den env = false) (h1 : e50.den env = false) (h2 : e61.den env = true) : False := by
  simp only [e49, e50, e61, den_iff, BE.P, IE.den, Bool.not_true, Bool.not_false, Int.ofNat_eq_natCast, den_and, den_add, den_sub, and_low, and_31, and_i31, wrap_u32, wrap_u64, wrap_i32, wrap_i64, wrap_i8, wrap_i16, vA a1 a3, vB a2 a3, v8 a1 a3, v16 a1 a3, ne_eq, not_true_eq_false, not_false_eq_true] at h0 h1 h2 <;> omega
theorem o61 (a0 : 0 ≤ env 0) (b0 : env 0 ≤ 255) (a1 : 0 ≤ env 1) (a2 : 0 ≤ env 2) (a3 : 0 ≤ env 3) (h0 : e49.den env = false) (h1 : e50.den env = false) (h2 : e61.den env = false) (h3 : e51.den env = true) (h4 : e52.den env = true) (h5 : e62.den env = true) : False := by
  simp only [e49, e50, e61, e51, e52, e62, den_iff, BE.P, IE.den, Bool.not_true, Bool.not_false, Int.ofNat_eq_natCast, den_and, den_add, den_sub, and_low, and_31, and_i31, wrap_u32, wrap_u64, wrap_i32, wrap_i64, wrap_i8, wrap_i16, vA a1 a3, vB a2 a3, v8 a1 a3, v16 a1 a3, ne_eq, not_true_eq_false, not_false_eq_true] at h0 h1 h2 h3 h4 h5 <;> omega
theorem o62 (a0 : 0 ≤ env 0) (b0 : env 0 ≤ 255) (a1 : 0 ≤ env 1) (a2 : 0 ≤ env 2) (a3 : 0 ≤ env 3) (h0 : e49.den env = false) (h1 : e50.den env = false) (h2 : e61.den env = false) (h3 : e51.den env = true) (h4 : e52.den env = true) (h5 : e62.den env = false) : False := by
  simp only [e49, e50, e61, e51, e52, e62, den_iff, BE.P, IE.den, Bool.not_true, Bool.not_false, Int.ofNat_eq_natCast, den_and, den_add, den_sub, and_low, and_31, and_i31, wrap_u32, wrap_u64, wrap_i32, wrap_i64, wrap_i8, wrap_i16, vA a1 a3, vB a2 a3, v8 a1 a3, v16 a1 a3, ne_eq, not_true_eq_false, not_false_eq_true] at h0 h1 h2 h3 h4 h5 <;> omega
theorem o63 (a0 : 0 ≤ env 0) (b0 : env 0 ≤ 255) (a1 : 0 ≤ env 1) (a2 : 0 ≤ env 2) (a3 : 0 ≤ env 3) (h0 : e49.den env = false) (h1 : e50.den env = false) (h2 : e61.den env = false) (h3 : e51.den env = true) (h4 : e52.den env = false) (h5 : e53.den env = true) (h6 : e62.den env = true) : False := by
  simp only [e49, e50, e61, e51, e52, e53, e62, den_iff, BE.P, IE.den, Bool.not_true, Bool.not_false, Int.ofNat_eq_natCast, den_and, den_add, den_sub, and_low, and_31, and_i31, wrap_u32, wrap_u64, wrap_i32, wrap_i64, wrap_i8, wrap_i16, vA a1 a3, vB a2 a3, v8 a1 a3, v16 a1 a3, ne_eq, not_true_eq_false, not_false_eq_true] at h0 h1 h2 h3 h4 h5 h6 <;> omega
theorem o64 (a0 : 0 ≤ env 0) (b0 : env 0 ≤ 255) (a1 : 0 ≤ env 1) (a2 : 0 ≤ env 2) (a3 : 0 ≤ env 3) (h0 : e49.den env = false) (h1 : e50.den env = false) (h2 : e61.den env = false) (h3 : e51.den env = true) (h4 : e52.den env = false) (h5 : e53.den env = true) (h6 : e62.den env = false) : False := by
  simp only [e49, e50, e61, e51, e52, e53, e62, den_iff, BE.P, IE.den, Bool.not_true, Bool.not_false, Int.ofNat_eq_natCast, den_and, den_add, den_sub, and_low, and_31, and_i31, wrap_u32, wrap_u64, wrap_i32, wrap_i64, wrap_i8, wrap_i16, vA a1 a3, vB a2 a3, v8 a1 a3, v16 a1 a3, ne_eq, not_true_eq_false, not_false_eq_true] at h0 h1 h2 h3 h4 h5 h6 <;> omega
theorem t65 (a0 : 0 ≤ env 0) (b0 : env 0 ≤ 255) (a1 : 0 ≤ env 1) (a2 : 0 ≤ env 2) (a3 : 0 ≤ env 3) : BE.den env (.lt (.bin .and .u64 (.wrap .u64 (.wrap .i64 (.bin .tdiv .i64 (.wrap .i64 (.wrap .i32 (.bin .and .u64 (.v 1) (.c (.ofNat 4294967295))))) (.wrap .i64 (.wrap .i32 (.bin .and .u64 (.v 2) (.c (.ofNat 4294967295)))))))) (.c (.ofNat 4294967295))) (.c (.ofNat 4294967296))) = true := by
  simp only [den_iff, BE.P, IE.den, Bool.not_true, Bool.not_false, Int.ofNat_eq_natCast, den_and, den_add, den_sub, and_low, and_31, and_i31, wrap_u32, wrap_u64, wrap_i32, wrap_i64, wrap_i8, wrap_i16, vA a1 a3, vB a2 a3, v8 a1 a3, v16 a1 a3, ne_eq, not_true_eq_false, not_false_eq_true]
  omega
theorem o66 (a0 : 0 ≤ env 0) (b0 : env 0 ≤ 255) (a1 : 0 ≤ env 1) (a2 : 0 ≤ env 2) (a3 : 0 ≤ env 3) (h0 : e49.den env = false) (h1 : e50.den env = false) (h2 : e61.den env = false) (h3 : e51.den env = true) (h4 : e52.den env = false) (h5 : e53.den env = false) (h6 : e63.den env = false) : False := by
  simp only [e49, e50, e61, e51, e52, e53, e63, den_iff, BE.P, IE.den, Bool.not_true, Bool.not_false, Int.ofNat_eq_natCast, den_and, den_add, den_sub, and_low, and_31, and_i31, wrap_u32, wrap_u64, wrap_i32, wrap_i64, wrap_i8, wrap_i16, vA a1 a3, vB a2 a3, v8 a1 a3, v16 a1 a3, ne_eq, not_true_eq_false, not_false_eq_true] at h0 h1 h2 h3 h4 h5 h6 <;> omega
theorem o67 (a0 : 0 ≤ env 0) (b0 : env 0 ≤ 255) (a1 : 0 ≤ env 1) (a2 : 0 ≤ env 2) (a3 : 0 ≤ env 3) (h0 : e49.den env = false) (h1 : e50.den env = false) (h2 : e61.den env = false) (h3 : e51.den env = false) (h4 : e52.den env = true) (h5 : e62.den env = true) : False := by
  simp only [e49, e50, e61, e51, e52, e62, den_iff, BE.P, IE.den, Bool.not_true, Bool.not_false, Int.ofNat_eq_natCast, den_and, den_add, den_sub, and_low, and_31, and_i31, wrap_u32, wrap_u64, wrap_i32, wrap_i64, wrap_i8, wrap_i16, vA a1 a3, vB a2 a3, v8 a1 a3, v16 a1 a3, ne_eq, not_true_eq_false, not_false_eq_true] at h0 h1 h2 h3 h4 h5 <;> omega
theorem o68 (a0 : 0 ≤ env 0) (b0 : env 0 ≤ 255) (a1 : 0 ≤ env 1) (a2 : 0 ≤ env 2) (a3 : 0 ≤ env 3) (h0 : e49.den env = false) (h1 : e50.den env = false) (h2 : e61.den env = false) (h3 : e51.den env = false) (h4 : e52.den env = true) (h5 : e62.den env = false) : False := by
  simp only [e49, e50, e61, e51, e52, e62, den_iff, BE.P, IE.den, Bool.not_true, Bool.not_false, Int.ofNat_eq_natCast, den_and, den_add, den_sub, and_low, and_31, and_i31, wrap_u32, wrap_u64, wrap_i32, wrap_i64, wrap_i8, wrap_i16, vA a1 a3, vB a2 a3, v8 a1 a3, v16 a1 a3, ne_eq, not_true_eq_false, not_false_eq_true] at h0 h1 h2 h3 h4 h5 <;> omega
theorem o69 (a0 : 0 ≤ env 0) (b0 : env 0 ≤ 255) (a1 : 0 ≤ env 1) (a2 : 0 ≤ env 2) (a3 : 0 ≤ env 3) (h0 : e49.den env = false) (h1 : e50.den env = false) (h2 : e61.den env = false) (h3 : e51.den env = false) (h4 : e52.den env = false) (h5 : e55.den env = true) : False := by
  simp only [e49, e50, e61, e51, e52, e55, den_iff, BE.P, IE.den, Bool.not_true, Bool.not_false, Int.ofNat_eq_natCast, den_and, den_add, den_sub, and_low, and_31, and_i31, wrap_u32, wrap_u64, wrap_i32, wrap_i64, wrap_i8, wrap_i16, vA a1 a3, vB a2 a3, v8 a1 a3, v16 a1 a3, ne_eq, not_true_eq_false, not_false_eq_true] at h0 h1 h2 h3 h4 h5 <;> omega
theorem t70 (a0 : 0 ≤ env 0) (b0 : env 0 ≤ 255) (a1 : 0 ≤ env 1) (a2 : 0 ≤ env 2) (a3 : 0 ≤ env 3) : BE.den env (.lt (.bin .and .u64 (.wrap .u64 (.wrap .i64 (.bin .tdiv .i64 (.wrap .i64 (.wrap .i32 (.bin .and .u64 (.v 1) (.c (.ofNat 4294967295))))) (.wrap .i64 (.wrap .i32 (.bin .and .u64 (.v 2) (.c (.ofNat 4294967295)))))))) (.c (.ofNat 4294967295))) (.c (.ofNat 4294967296))) = true := by
  simp only [den_iff, BE.P, IE.den, Bool.not_true, Bool.not_false, Int.ofNat_eq_natCast, den_and, den_add, den_sub, and_low, and_31, and_i31, wrap_u32, wrap_u64, wrap_i32, wrap_i64, wrap_i8, wrap_i16, vA a1 a3, vB a2 a3, v8 a1 a3, v16 a1 a3, ne_eq, not_true_eq_false, not_false_eq_true]
  omega
theorem o71 (a0 : 0 ≤ env 0) (b0 : env 0 ≤ 255) (a1 : 0 ≤ env 1) (a2 : 0 ≤ env 2) (a3 : 0 ≤ env 3) (h0 : e49.den env = false) (h1 : e50.den env = false) (h2 : e61.den env = false) (h3 : e51.den env = false) (h4 : e52.den env = false) (h5 : e55.den env = false) (h6 : e64.den env = false) : False := by
  simp only [e49, e50, e61, e51, e52, e55, e64, den_iff, BE.P, IE.den, Bool.not_true, Bool.not_false, Int.ofNat_eq_natCast, den_and, den_add, den_sub, and_low, and_31, and_i31, wrap_u32, wrap_u64, wrap_i32, wrap_i64, wrap_i8, wrap_i16, vA a1 a3, vB a2 a3, v8 a1 a3, v16 a1 a3, ne_eq, not_true_eq_false, not_false_eq_true] at h0 h1 h2 h3 h4 h5 h6 <;> omega
theorem o72 (a0 : 0 ≤ env 0) (b0 : env 0 ≤ 255) (a1 : 0 ≤ env 1) (a2 : 0 ≤ env 2) (a3 : 0 ≤ env 3) (h0 : e49.den env = true) (h1 : e50.den env = true) (h2 : e51.den env = true) (h3 : e52.den env = false) (h4 : e66.den env = true) : False := by
  simp only [e49, e50, e51, e52, e66, den_iff, BE.P, IE.den, Bool.not_true, Bool.not_false, Int.ofNat_eq_natCast, den_and, den_add, den_sub, and_low, and_31, and_i31, wrap_u32, wrap_u64, wrap_i32, wrap_i64, wrap_i8, wrap_i16, vA a1 a3, vB a2 a3, v8 a1 a3, v16 a1 a3, ne_eq, not_true_eq_false, not_false_eq_true] at h0 h1 h2 h3 h4 <;> omega
theorem o73 (a0 : 0 ≤ env 0) (b0 : env 0 ≤ 255) (a1 : 0 ≤ env 1) (a2 : 0 ≤ env 2) (a3 : 0 ≤ env 3) (h0 : e49.den env = true) (h1 : e50.den env = true) (h2 : e51.den env = true) (h3 : e52.den env = false) (h4 : e66.den env = false) : False := by
  simp only [e49, e50, e51, e52, e66, den_iff, BE.P, IE.den, Bool.not_true, Bool.not_false, Int.ofNat_eq_natCast, den_and, den_add, den_sub, and_low, and_31, and_i31, wrap_u32, wrap_u64, wrap_i32, wrap_i64, wrap_i8, wrap_i16, vA a1 a3, vB a2 a3, v8 a1 a3, v16 a1 a3, ne_eq, not_true_eq_false, not_false_eq_true] at h0 h1 h2 h3 h4 <;> omega
theorem o74 (a0 : 0 ≤ env 0) (b0 : env 0 ≤ 255) (a1 : 0 ≤ env 1) (a2 : 0 ≤ env 2) (a3 : 0 ≤ env 3) (h0 : e49.den env = true) (h1 : e50.den env = true) (h2 : e51.den env = false) (h3 : e52.den env = false) (h4 : e66.den env = true) : False := by
  simp only [e49, e50, e51, e52, e66, den_iff, BE.P, IE.den, Bool.not_true, Bool.not_false, Int.ofNat_eq_natCast, den_and, den_add, den_sub, and_low, and_31, and_i31, wrap_u32, wrap_u64, wrap_i32, wrap_i64, wrap_i8, wrap_i16, vA a1 a3, vB a2 a3, v8 a1 a3, v16 a1 a3, ne_eq, not_true_eq_false, not_false_eq_true] at h0 h1 h2 h3 h4 <;> omega
theorem o75 (a0 : 0 ≤ env 0) (b0 : env 0 ≤ 255) (a1 : 0 ≤ env 1) (a2 : 0 ≤ env 2) (a3 : 0 ≤ env 3) (h0 : e49.den env = true) (h1 : e50.den env = true) (h2 : e51.den env = false) (h3 : e52.den env = false) (h4 : e66.den env = false) : False := by
  simp only [e49, e50, e51, e52, e66, den_iff, BE.P, IE.den, Bool.not_true, Bool.not_false, Int.ofNat_eq_natCast, den_and, den_add, den_sub, and_low, and_31, and_i31, wrap_u32, wrap_u64, wrap_i32, wrap_i64, wrap_i8, wrap_i16, vA a1 a3, vB a2 a3, v8 a1 a3, v16 a1 a3, ne_eq, not_true_eq_false, not_false_eq_true] at h0 h1 h2 h3 h4 <;> omega
theorem o76 (a0 : 0 ≤ env 0) (b0 : env 0 ≤ 255) (a1 : 0 ≤ env 1) (a2 : 0 ≤ env 2) (a3 : 0 ≤ env 3) (h0 : e49.den env = true) (h1 : e50.den env = false) (h2 : e51.den env = true) (h3 : e52.den env = true) (h4 : e67.den env = true) : False := by
  simp only [e49, e50, e51, e52, e67, den_iff, BE.P, IE.den, Bool.not_true, Bool.not_false, Int.ofNat_eq_natCast, den_and, den_add, den_sub, and_low, and_31, and_i31, wrap_u32, wrap_u64, wrap_i32, wrap_i64, wrap_i8, wrap_i16, vA a1 a3, vB a2 a3, v8 a1 a3, v16 a1 a3, ne_eq, not_true_eq_false, not_false_eq_true] at h0 h1 h2 h3 h4 <;> omega
theorem o77 (a0 : 0 ≤ env 0) (b0 : env 0 ≤ 255) (a1 : 0 ≤ env 1) (a2 : 0 ≤ env 2) (a3 : 0 ≤ env 3) (h0 : e49.den env = true) (h1 : e50.den env = false) (h2 : e51.den env = true) (h3 : e52.den env = true) (h4 : e67.den env = false) : False := by
  simp only [e49, e50, e51, e52, e67, den_iff, BE.P, IE.den, Bool.not_true, Bool.not_false, Int.ofNat_eq_natCast, den_and, den_add, den_sub, and_low, and_31, and_i31, wrap_u32, wrap_u64, wrap_i32, wrap_i64, wrap_i8, wrap_i16, vA a1 a3, vB a2 a3, v8 a1 a3, v16 a1 a3, ne_eq, not_true_eq_false, not_false_eq_true] at h0 h1 h2 h3 h4 <;> omega
theorem t78 (a0 : 0 ≤ env 0) (b0 : env 0 ≤ 255) (a1 : 0 ≤ env 1) (a2 : 0 ≤ env 2) (a3 : 0 ≤ env 3) : BE.den env (.lt (.bin .and .u64 (.wrap .u64 (.bin .tdiv .u64 (.bin .and .u64 (.v 1) (.c (.ofNat 4294967295))) (.bin .and .u64 (.v 2) (.c (.ofNat 4294967295))))) (.c (.ofNat 4294967295))) (.c (.ofNat 4294967296))) = true := by
  simp only [den_iff, BE.P, IE.den, Bool.not_true, Bool.not_false, Int.ofNat_eq_natCast, den_and, den_add, den_sub, and_low, and_31, and_i31, wrap_u32, wrap_u64, wrap_i32, wrap_i64, wrap_i8, wrap_i16, vA a1 a3, vB a2 a3, v8 a1 a3, v16 a1 a3, ne_eq, not_true_eq_false, not_false_eq_true]
  omega
theorem o79 (a0 : 0 ≤ env 0) (b0 : env 0 ≤ 255) (a1 : 0 ≤ env 1) (a2 : 0 ≤ env 2) (a3 : 0 ≤ env 3) (h0 : e49.den env = true) (h1 : e50.den env = false) (h2 : e51.den env = true) (h3 : e52.den env = false) (h4 : e68.den env = false) : False := by
  simp only [e49, e50, e51, e52, e68, den_iff, BE.P, IE.den, Bool.not_true, Bool.not_false, Int.ofNat_eq_natCast, den_and, den_add, den_sub, and_low, and_31, and_i31, wrap_u32, wrap_u64, wrap_i32, wrap_i64, wrap_i8, wrap_i16, vA a1 a3, vB a2 a3, v8 a1 a3, v16 a1 a3, ne_eq, not_true_eq_false, not_false_eq_true] at h0 h1 h2 h3 h4 <;> omega
theorem o80 (a0 : 0 ≤ env 0) (b0 : env 0 ≤ 255) (a1 : 0 ≤ env 1) (a2 : 0 ≤ env 2) (a3 : 0 ≤ env 3) (h0 : e49.den env = true) (h1 : e50.den env = false) (h2 : e51.den env = false) (h3 : e52.den env = true) (h4 : e67.den env = true) : False := by
  simp only [e49, e50, e51, e52, e67, den_iff, BE.P, IE.den, Bool.not_true, Bool.not_false, Int.ofNat_eq_natCast, den_and, den_add, den_sub, and_low, and_31, and_i31, wrap_u32, wrap_u64, wrap_i32, wrap_i64, wrap_i8, wrap_i16, vA a1 a3, vB a2 a3, v8 a1 a3, v16 a1 a3, ne_eq, not_true_eq_false, not_false_eq_true] at h0 h1 h2 h3 h4 <;> omega
theorem o81 (a0 : 0 ≤ env 0) (b0 : env 0 ≤ 255) (a1 : 0 ≤ env 1) (a2 : 0 ≤ env 2) (a3 : 0 ≤ env 3) (h0 : e49.den env = true) (h1 : e50.den env = false) (h2 : e51.den env = false) (h3 : e52.den env = true) (h4 : e67.den env = false) : False := by
  simp only [e49, e50, e51, e52, e67, den_iff, BE.P, IE.den, Bool.not_true, Bool.not_false, Int.ofNat_eq_natCast, den_and, den_add, den_sub, and_low, and_31, and_i31, wrap_u32, wrap_u64, wrap_i32, wrap_i64, wrap_i8, wrap_i16, vA a1 a3, vB a2 a3, v8 a1 a3, v16 a1 a3, ne_eq, not_true_eq_false, not_false_eq_true] at h0 h1 h2 h3 h4 <;> omega
theorem t82 (a0 : 0 ≤ env 0) (b0 : env 0 ≤ 255) (a1 : 0 ≤ env 1) (a2 : 0 ≤ env 2) (a3 : 0 ≤ env 3) : BE.den env (.lt (.bin .and .u64 (.wrap .u64 (.bin .tdiv .u64 (.bin .and .u64 (.v 1) (.c (.ofNat 4294967295))) (.bin .and .u64 (.v 2) (.c (.ofNat 4294967295))))) (.c (.ofNat 4294967295))) (.c (.ofNat 4294967296))) = true := by
  simp only [den_iff, BE.P, IE.den, Bool.not_true, Bool.not_false, Int.ofNat_eq_natCast, den_and, den_add, den_sub, and_low, and_31, and_i31, wrap_u32, wrap_u64, wrap_i32, wrap_i64, wrap_i8, wrap_i16, vA a1 a3, vB a2 a3, v8 a1 a3, v16 a1 a3, ne_eq, not_true_eq_false, not_false_eq_true]
  omega
theorem o83 (a0 : 0 ≤ env 0) (b0 : env 0 ≤ 255) (a1 : 0 ≤ env 1) (a2 : 0 ≤ env 2) (a3 : 0 ≤ env 3) (h0 : e49.den env = true) (h1 : e50.den env = false) (h2 : e51.den env = false) (h3 : e52.den env = false) (h4 : e68.den env = false) : False := by
  simp only [e49, e50, e51, e52, e68, den_iff, BE.P, IE.den, Bool.not_true, Bool.not_false, Int.ofNat_eq_natCast, den_and, den_add, den_sub, and_low, and_31, and_i31, wrap_u32, wrap_u64, wrap_i32, wrap_i64, wrap_i8, wrap_i16, vA a1 a3, vB a2 a3, v8 a1 a3, v16 a1 a3, ne_eq, not_true_eq_false, not_false_eq_true] at h0 h1 h2 h3 h4 <;> omega
theorem o84 (a0 : 0 ≤ env 0) (b0 : env 0 ≤ 255) (a1 : 0 ≤ env 1) (a2 : 0 ≤ env 2) (a3 : 0 ≤ env 3) (h0 : e49.den env = false) (h1 : e50.den env = true) (h2 : e51.den env = true) (h3 : e52.den env = false) (h4 : e66.den env = true) : False := by
  simp only [e49, e50, e51, e52, e66, den_iff, BE.P, IE.den, Bool.not_true, Bool.not_false, Int.ofNat_eq_natCast, den_and, den_add, den_sub, and_low, and_31, and_i31, wrap_u32, wrap_u64, wrap_i32, wrap_i64, wrap_i8, wrap_i16, vA a1 a3, vB a2 a3, v8 a1 a3, v16 a1 a3, ne_eq, not_true_eq_false, not_false_eq_true] at h0 h1 h2 h3 h4 <;> omega
theorem o85 (a0 : 0 ≤ env 0) (b0 : env 0 ≤ 255) (a1 : 0 ≤ env 1) (a2 : 0 ≤ env 2) (a3 : 0 ≤ env 3) (h0 : e49.den env = false) (h1 : e50.den env = true) (h2 : e51.den env = true) (h3 : e52.den env = false) (h4 : e66.den env = false) : False := by
  simp only [e49, e50, e51, e52, e66, den_iff, BE.P, IE.den, Bool.not_true, Bool.not_false, Int.ofNat_eq_natCast, den_and, den_add, den_sub, and_low, and_31, and_i31, wrap_u32, wrap_u64, wrap_i32, wrap_i64, wrap_i8, wrap_i16, vA a1 a3, vB a2 a3, v8 a1 a3, v16 a1 a3, ne_eq, not_true_eq_false, not_false_eq_true] at h0 h1 h2 h3 h4 <;> omega
theorem o86 (a0 : 0 ≤ env 0) (b0 : env 0 ≤ 255) (a1 : 0 ≤ env 1) (a2 : 0 ≤ env 2) (a3 : 0 ≤ env 3) (h0 : e49.den env = false) (h1 : e50.den env = true) (h2 : e51.den env = false) (h3 : e52.den env = false) (h4 : e66.den env = true) : False := by
  simp only [e49, e50, e51, e52, e66, den_iff, BE.P, IE.den, Bool.not_true, Bool.not_false, Int.ofNat_eq_natCast, den_and, den_add, den_sub, and_low, and_31, and_i31, wrap_u32, wrap_u64, wrap_i32, wrap_i64, wrap_i8, wrap_i16, vA a1 a3, vB a2 a3, v8 a1 a3, v16 a1 a3, ne_eq, not_true_eq_false, not_false_eq_true] at h0 h1 h2 h3 h4 <;> omega
theorem o87 (a0 : 0 ≤ env 0) (b0 : env 0 ≤ 255) (a1 : 0 ≤ env 1) (a2 : 0 ≤ env 2) (a3 : 0 ≤ env 3) (h0 : e49.den env = false) (h1 : e50.den env = true) (h2 : e51.den env = false) (h3 : e52.den env = false) (h4 : e66.den env = false) : False := by
  simp only [e49, e50, e51, e52, e66, den_iff, BE.P, IE.den, Bool.not_true, Bool.not_false, Int.ofNat_eq_natCast, den_and, den_add, den_sub, and_low, and_31, and_i31, wrap_u32, wrap_u64, wrap_i32, wrap_i64, wrap_i8, wrap_i16, vA a1 a3, vB a2 a3, v8 a1 a3, v16 a1 a3, ne_eq, not_true_eq_false, not_false_eq_true] at h0 h1 h2 h3 h4 <;> omega
theorem o88 (a0 : 0 ≤ env 0) (b0 : env 0 ≤ 255) (a1 : 0 ≤ env 1) (a2 : 0 ≤ env 2) (a3 : 0 ≤ env 3) (h0 : e49.den env = false) (h1 : e50.den env = false) (h2 : e51.den env = true) (h3 : e52.den env = true) (h4 : e67.den env = true) : False := by
  simp only [e49, e50, e51, e52, e67, den_iff, BE.P, IE.den, Bool.not_true, Bool.not_false, Int.ofNat_eq_natCast, den_and, den_add, den_sub, and_low, and_31, and_i31, wrap_u32, wrap_u64, wrap_i32, wrap_i64, wrap_i8, wrap_i16, vA a1 a3, vB a2 a3, v8 a1 a3, v16 a1 a3, ne_eq, not_true_eq_false, not_false_eq_true] at h0 h1 h2 h3 h4 <;> omega
theorem o89 (a0 : 0 ≤ env 0) (b0 : env 0 ≤ 255) (a1 : 0 ≤ env 1) (a2 : 0 ≤ env 2) (a3 : 0 ≤ env 3) (h0 : e49.den env = false) (h1 : e50.den env = false) (h2 : e51.den env = true) (h3 : e52.den env = true) (h4 : e67.den env = false) : False := by
  simp only [e49, e50, e51, e52, e67, den_iff, BE.P, IE.den, Bool.not_true, Bool.not_false, Int.ofNat_eq_natCast, den_and, den_add, den_sub, and_low, and_31, and_i31, wrap_u32, wrap_u64, wrap_i32, wrap_i64, wrap_i8, wrap_i16, vA a1 a3, vB a2 a3, v8 a1 a3, v16 a1 a3, ne_eq, not_true_eq_false, not_false_eq_true] at h0 h1 h2 h3 h4 <;> omega
theorem t90 (a0 : 0 ≤ env 0) (b0 : env 0 ≤ 255) (a1 : 0 ≤ env 1) (a2 : 0 ≤ env 2) (a3 : 0 ≤ env 3) : BE.den env (.lt (.bin .and .u64 (.wrap .u64 (.bin .tdiv .u64 (.bin .and .u64 (.v 1) (.c (.ofNat 4294967295))) (.bin .and .u64 (.v 2) (.c (.ofNat 4294967295))))) (.c (.ofNat 4294967295))) (.c (.ofNat 4294967296))) = true := by
  simp only [den_iff, BE.P, IE.den, Bool.not_true, Bool.not_false, Int.ofNat_eq_natCast, den_and, den_add, den_sub, and_low, and_31, and_i31, wrap_u32, wrap_u64, wrap_i32, wrap_i64, wrap_i8, wrap_i16, vA a1 a3, vB a2 a3, v8 a1 a3, v16 a1 a3, ne_eq, not_true_eq_false, not_false_eq_true]
  omega
theorem o91 (a0 : 0 ≤ env 0) (b0 : env 0 ≤ 255) (a1 : 0 ≤ env 1) (a2 : 0 ≤ env 2) (a3 : 0 ≤ env 3) (h0 : e49.den env = false) (h1 : e50.den env = false) (h2 : e51.den env = true) (h3 : e52.den env = false) (h4 : e68.den env = false) : False := by
  simp only [e49, e50, e51, e52, e68, den_iff, BE.P, IE.den, Bool.not_true, Bool.not_false, Int.ofNat_eq_natCast, den_and, den_add, den_sub, and_low, and_31, and_i31, wrap_u32, wrap_u64, wrap_i32, wrap_i64, wrap_i8, wrap_i16, vA a1 a3, vB a2 a3, v8 a1 a3, v16 a1 a3, ne_eq, not_true_eq_false, not_false_eq_true] at h0 h1 h2 h3 h4 <;> omega
theorem o92 (a0 : 0 ≤ env 0) (b0 : env 0 ≤ 255) (a1 : 0 ≤ env 1) (a2 : 0 ≤ env 2) (a3 : 0 ≤ env 3) (h0 : e49.den env = false) (h1 : e50.den env = false) (h2 : e51.den env = false) (h3 : e52.den env = true) (h4 : e67.den env = true) : False := by
  simp only [e49, e50, e51, e52, e67, den_iff, BE.P, IE.den, Bool.not_true, Bool.not_false, Int.ofNat_eq_natCast, den_and, den_add, den_sub, and_low, and_31, and_i31, wrap_u32, wrap_u64, wrap_i32, wrap_i64, wrap_i8, wrap_i16, vA a1 a3, vB a2 a3, v8 a1 a3, v16 a1 a3, ne_eq, not_true_eq_false, not_false_eq_true] at h0 h1 h2 h3 h4 <;> omega
theorem o93 (a0 : 0 ≤ env 0) (b0 : env 0 ≤ 255) (a1 : 0 ≤ env 1) (a2 : 0 ≤ env 2) (a3 : 0 ≤ env 3) (h0 : e49.den env = false) (h1 : e50.den env = false) (h2 : e51.den env = false) (h3 : e52.den env = true) (h4 : e67.den env = false) : False := by
  simp only [e49, e50, e51, e52, e67, den_iff, BE.P, IE.den, Bool.not_true, Bool.not_false, Int.ofNat_eq_natCast, den_and, den_add, den_sub, and_low, and_31, and_i31, wrap_u32, wrap_u64, wrap_i32, wrap_i64, wrap_i8, wrap_i16, vA a1 a3, vB a2 a3, v8 a1 a3, v16 a1 a3, ne_eq, not_true_eq_false, not_false_eq_true] at h0 h1 h2 h3 h4 <;> omega
theorem t94 (a0 : 0 ≤ env 0) (b0 : env 0 ≤ 255) (a1 : 0 ≤ env 1) (a2 : 0 ≤ env 2) (a3 : 0 ≤ env 3) : BE.den env (.lt (.bin .and .u64 (.wrap .u64 (.bin .tdiv .u64 (.bin .and .u64 (.v 1) (.c (.ofNat 4294967295))) (.bin .and .u64 (.v 2) (.c (.ofNat 4294967295))))) (.c (.ofNat 4294967295))) (.c (.ofNat 4294967296))) = true := by
  simp only [den_iff, BE.P, IE.den, Bool.not_true, Bool.not_false, Int.ofNat_eq_natCast, den_and, den_add, den_sub, and_low, and_31, and_i31, wrap_u32, wrap_u64, wrap_i32, wrap_i64, wrap_i8, wrap_i16, vA a1 a3, vB a2 a3, v8 a1 a3, v16 a1 a3, ne_eq, not_true_eq_false, not_false_eq_true]
  omega
theorem o95 (a0 : 0 ≤ env 0) (b0 : env 0 ≤ 255) (a1 : 0 ≤ env 1) (a2 : 0 ≤ env 2) (a3 : 0 ≤ env 3) (h0 : e49.den env = false) (h1 : e50.den env = false) (h2 : e51.den env = false) (h3 : e52.den env = false) (h4 : e68.den env = false) : False := by
  simp only [e49, e50, e51, e52, e68, den_iff, BE.P, IE.den, Bool.not_true, Bool.not_false, Int.ofNat_eq_natCast, den_and, den_add, den_sub, and_low, and_31, and_i31, wrap_u32, wrap_u64, wrap_i32, wrap_i64, wrap_i8, wrap_i16, vA a1 a3, vB a2 a3, v8 a1 a3, v16 a1 a3, ne_eq, not_true_eq_false, not_false_eq_true] at h0 h1 h2 h3 h4 <;> omega
theorem o96 (a0 : 0 ≤ env 0) (b0 : env 0 ≤ 255) (a1 : 0 ≤ env 1) (a2 : 0 ≤ env 2) (a3 : 0 ≤ env 3) (h0 : e49.den env = true) (h1 : e50.den env = true) (h2 : e51.den env = true) (h3 : e52.den env = false) : False := by
  simp only [e49, e50, e51, e52, den_iff, BE.P, IE.den, Bool.not_true, Bool.not_false, Int.ofNat_eq_natCast, den_and, den_add, den_sub, and_low, and_31, and_i31, wrap_u32, wrap_u64, wrap_i32, wrap_i64, wrap_i8, wrap_i16, vA a1 a3, vB a2 a3, v8 a1 a3, v16 a1 a3, ne_eq, not_true_eq_false, not_false_eq_true] at h0 h1 h2 h3 <;> omega
theorem o97 (a0 : 0 ≤ env 0) (b0 : env 0 ≤ 255) (a1 : 0 ≤ env 1) (a2 : 0 ≤ env 2) (a3 : 0 ≤ env 3) (h0 : e49.den env = true) (h1 : e50.den env = true) (h2 : e51.den env = false) (h3 : e52.den env = false) (h4 : e55.den env = true) : False := by
  simp only [e49, e50, e51, e52, e55, den_iff, BE.P, IE.den, Bool.not_true, Bool.not_false, Int.ofNat_eq_natCast, den_and, den_add, den_sub, and_low, and_31, and_i31, wrap_u32, wrap_u64, wrap_i32, wrap_i64, wrap_i8, wrap_i16, vA a1 a3, vB a2 a3, v8 a1 a3, v16 a1 a3, ne_eq, not_true_eq_false, not_false_eq_true] at h0 h1 h2 h3 h4 <;> omega
theorem o98 (a0 : 0 ≤ env 0) (b0 : env 0 ≤ 255) (a1 : 0 ≤ env 1) (a2 : 0 ≤ env 2) (a3 : 0 ≤ env 3) (h0 : e49.den env = true) (h1 : e50.den env = true) (h2 : e51.den env = false) (h3 : e52.den env = false) (h4 : e55.den env = false) (h5 : e70.den env = true) : False := by
  simp only [e49, e50, e51, e52, e55, e70, den_iff, BE.P, IE.den, Bool.not_true, Bool.not_false, Int.ofNat_eq_natCast, den_and, den_add, den_sub, and_low, and_31, and_i31, wrap_u32, wrap_u64, wrap_i32, wrap_i64, wrap_i8, wrap_i16, vA a1 a3, vB a2 a3, v8 a1 a3, v16 a1 a3, ne_eq, not_true_eq_false, not_false_eq_true] at h0 h1 h2 h3 h4 h5 <;> omega
theorem o99 (a0 : 0 ≤ env 0) (b0 : env 0 ≤ 255) (a1 : 0 ≤ env 1) (a2 : 0 ≤ env 2) (a3 : 0 ≤ env 3) (h0 : e49.den env = true) (h1 : e50.den env = true) (h2 : e51.den env = false) (h3 : e52.den env = false) (h4 : e55.den env = false) (h5 : e70.den env = false) : False := by
  simp only [e49, e50, e51, e52, e55, e70, den_iff, BE.P, IE.den, Bool.not_true, Bool.not_false, Int.ofNat_eq_natCast, den_and, den_add, den_sub, and_low, and_31, and_i31, wrap_u32, wrap_u64, wrap_i32, wrap_i64, wrap_i8, wrap_i16, vA a1 a3, vB a2 a3, v8 a1 a3, v16 a1 a3, ne_eq, not_true_eq_false, not_false_eq_true] at h0 h1 h2 h3 h4 h5 <;> omega
theorem o100 (a0 : 0 ≤ env 0) (b0 : env 0 ≤ 255) (a1 : 0 ≤ env 1) (a2 : 0 ≤ env 2) (a3 : 0 ≤ env 3) (h0 : e49.den env = true) (h1 : e50.den env = false) (h2 : e51.den env = true) (h3 : e52.den env = true) : False := by
  simp only [e49, e50, e51, e52, den_iff, BE.P, IE.den, Bool.not_true, Bool.not_false, Int.ofNat_eq_natCast, den_and, den_add, den_sub, and_low, and_31, and_i31, wrap_u32, wrap_u64, wrap_i32, wrap_i64, wrap_i8, wrap_i16, vA a1 a3, vB a2 a3, v8 a1 a3, v16 a1 a3, ne_eq, not_true_eq_false, not_false_eq_true] at h0 h1 h2 h3 <;> omega
theorem o101 (a0 : 0 ≤ env 0) (b0 : env 0 ≤ 255) (a1 : 0 ≤ env 1) (a2 : 0 ≤ env 2) (a3 : 0 ≤ env 3) (h0 : e49.den env = true) (h1 : e50.den env = false) (h2 : e51.den env = false) (h3 : e52.den env = true) : False := by
  simp only [e49, e50, e51, e52, den_iff, BE.P, IE.den, Bool.not_true, Bool.not_false, Int.ofNat_eq_natCast, den_and, den_add, den_sub, and_low, and_31, and_i31, wrap_u32, wrap_u64, wrap_i32, wrap_i64, wrap_i8, wrap_i16, vA a1 a3, vB a2 a3, v8 a1 a3, v16 a1 a3, ne_eq, not_true_eq_false, not_false_eq_true] at h0 h1 h2 h3 <;> omega
theorem o102 (a0 : 0 ≤ env 0) (b0 : env 0 ≤ 255) (a1 : 0 ≤ env 1) (a2 : 0 ≤ env 2) (a3 : 0 ≤ env 3) (h0 : e49.den env = true) (h1 : e50.den env = false) (h2 : e51.den env = false) (h3 : e52.den env = false) (h4 : e55.den env = true) : False := by
  simp only [e49, e50, e51, e52, e55, den_iff, BE.P, IE.den, Bool.not_true, Bool.not_false, Int.ofNat_eq_natCast, den_and, den_add, den_sub, and_low, and_31, and_i31, wrap_u32, wrap_u64, wrap_i32, wrap_i64, wrap_i8, wrap_i16, vA a1 a3, vB a2 a3, v8 a1 a3, v16 a1 a3, ne_eq, not_true_eq_false, not_false_eq_true] at h0 h1 h2 h3 h4 <;> omega
theorem o103 (a0 : 0 ≤ env 0) (b0 : env 0 ≤ 255) (a1 : 0 ≤ env 1) (a2 : 0 ≤ env 2) (a3 : 0 ≤ env 3) (h0 : e49.den env = true) (h1 : e50.den env = false) (h2 : e51.den env = false) (h3 : e52.den env = false) (h4 : e55.den env = false) (h5 : e70.den env = false) : False := by
  simp only [e49, e50, e51, e52, e55, e70, den_iff, BE.P, IE.den, Bool.not_true, Bool.not_false, Int.ofNat_eq_natCast, den_and, den_add, den_sub, and_low, and_31, and_i31, wrap_u32, wrap_u64, wrap_i32, wrap_i64, wrap_i8, wrap_i16, vA a1 a3, vB a2 a3, v8 a1 a3, v16 a1 a3, ne_eq, not_true_eq_false, not_false_eq_true] at h0 h1 h2 h3 h4 h5 <;> omega
theorem o104 (a0 : 0 ≤ env 0) (b0 : env 0 ≤ 255) (a1 : 0 ≤ env 1) (a2 : 0 ≤ env 2) (a3 : 0 ≤ env 3) (h0 : e49.den env = false) (h1 : e50.den env = true) (h2 : e51.den env = true) (h3 : e52.den env = false) : False := by
  simp only [e49, e50, e51, e52, den_iff, BE.P, IE.den, Bool.not_true, Bool.not_false, Int.ofNat_eq_natCast, den_and, den_add, den_sub, and_low, and_31, and_i31, wrap_u32, wrap_u64, wrap_i32, wrap_i64, wrap_i8, wrap_i16, vA a1 a3, vB a2 a3, v8 a1 a3, v16 a1 a3, ne_eq, not_true_eq_false, not_false_eq_true] at h0 h1 h2 h3 <;> omega
theorem o105 (a0 : 0 ≤ env 0) (b0 : env 0 ≤ 255) (a1 : 0 ≤ env 1) (a2 : 0 ≤ env 2) (a3 : 0 ≤ env 3) (h0 : e49.den env = false) (h1 : e50.den env = true) (h2 : e51.den env = false) (h3 : e52.den env = false) (h4 : e55.den env = true) : False := by
  simp only [e49, e50, e51, e52, e55, den_iff, BE.P, IE.den, Bool.not_true, Bool.not_false, Int.ofNat_eq_natCast, den_and, den_add, den_sub, and_low, and_31, and_i31, wrap_u32, wrap_u64, wrap_i32, wrap_i64, wrap_i8, wrap_i16, vA a1 a3, vB a2 a3, v8 a1 a3, v16 a1 a3, ne_eq, not_true_eq_false, not_false_eq_true] at h0 h1 h2 h3 h4 <;> omega
theorem o106 (a0 : 0 ≤ env 0) (b0 : env 0 ≤ 255) (a1 : 0 ≤ env 1) (a2 : 0 ≤ env 2) (a3 : 0 ≤ env 3) (h0 : e49.den env = false) (h1 : e50.den env = true) (h2 : e51.den env = false) (h3 : e52.den env = false) (h4 : e55.den env = false) (h5 : e70.den env = true) : False := by
  simp only [e49, e50, e51, e52, e55, e70, den_iff, BE.P, IE.den, Bool.not_true, Bool.not_false, Int.ofNat_eq_natCast, den_and, den_add, den_sub, and_low, and_31, and_i31, wrap_u32, wrap_u64, wrap_i32, wrap_i64, wrap_i8, wrap_i16, vA a1 a3, vB a2 a3, v8 a1 a3, v16 a1 a3, ne_eq, not_true_eq_false, not_false_eq_true] at h0 h1 h2 h3 h4 h5 <;> omega
theorem o107 (a0 : 0 ≤ env 0) (b0 : env 0 ≤ 255) (a1 : 0 ≤ env 1) (a2 : 0 ≤ env 2) (a3 : 0 ≤ env 3) (h0 : e49.den env = false) (h1 : e50.den env = true) (h2 : e51.den env = false) (h3 : e52.den env = false) (h4 : e55.den env = false) (h5 : e70.den env = false) : False := by
  simp only [e49, e50, e51, e52, e55, e70, den_iff, BE.P, IE.den, Bool.not_true, Bool.not_false, Int.ofNat_eq_natCast, den_and, den_add, den_sub, and_low, and_31, and_i31, wrap_u32, wrap_u64, wrap_i32, wrap_i64, wrap_i8, wrap_i16, vA a1 a3, vB a2 a3, v8 a1 a3, v16 a1 a3, ne_eq, not_true_eq_false, not_false_eq_true] at h0 h1 h2 h3 h4 h5 <;> omega
theorem o108 (a0 : 0 ≤ env 0) (b0 : env 0 ≤ 255) (a1 : 0 ≤ env 1) (a2 : 0 ≤ env 2) (a3 : 0 ≤ env 3) (h0 : e49.den env = false) (h1 : e50.den env = false) (h2 : e61.den env = true) : False := by
  simp only [e49, e50, e61, den_iff, BE.P, IE.den, Bool.not_true, Bool.not_false, Int.ofNat_eq_natCast, den_and, den_add, den_sub, and_low, and_31, and_i31, wrap_u32, wrap_u64, wrap_i32, wrap_i64, wrap_i8, wrap_i16, vA a1 a3, vB a2 a3, v8 a1 a3, v16 a1 a3, ne_eq, not_true_eq_false, not_false_eq_true] at h0 h1 h2 <;> omega
theorem o109 (a0 : 0 ≤ env 0) (b0 : env 0 ≤ 255) (a1 : 0 ≤ env 1) (a2 : 0 ≤ env 2) (a3 : 0 ≤ env 3) (h0 : e49.den env = false) (h1 : e50.den env = false) (h2 : e61.den env = false) (h3 : e51.den env = true) (h4 : e52.den env = true) (h5 : e71.den env = true) : False := by
  simp only [e49, e50, e61, e51, e52, e71, den_iff, BE.P, IE.den, Bool.not_true, Bool.not_false, Int.ofNat_eq_natCast, den_and, den_add, den_sub, and_low, and_31, and_i31, wrap_u32, wrap_u64, wrap_i32, wrap_i64, wrap_i8, wrap_i16, vA a1 a3, vB a2 a3, v8 a1 a3, v16 a1 a3, ne_eq, not_true_eq_false, not_false_eq_true] at h0 h1 h2 h3 h4 h5 <;> omega
theorem o110 (a0 : 0 ≤ env 0) (b0 : env 0 ≤ 255) (a1 : 0 ≤ env 1) (a2 : 0 ≤ env 2) (a3 : 0 ≤ env 3) (h0 : e49.den env = false) (h1 : e50.den env = false) (h2 : e61.den env = false) (h3 : e51.den env = true) (h4 : e52.den env = true) (h5 : e71.den env = false) : False := by
  simp only [e49, e50, e61, e51, e52, e71, den_iff, BE.P, IE.den, Bool.not_true, Bool.not_false, Int.ofNat_eq_natCast, den_and, den_add, den_sub, and_low, and_31, and_i31, wrap_u32, wrap_u64, wrap_i32, wrap_i64, wrap_i8, wrap_i16, vA a1 a3, vB a2 a3, v8 a1 a3, v16 a1 a3, ne_eq, not_true_eq_false, not_false_eq_true] at h0 h1 h2 h3 h4 h5 <;> omega
theorem o111 (a0 : 0 ≤ env 0) (b0 : env 0 ≤ 255) (a1 : 0 ≤ env 1) (a2 : 0 ≤ env 2) (a3 : 0 ≤ env 3) (h0 : e49.den env = false) (h1 : e50.den env = false) (h2 : e61.den env = false) (h3 : e51.den env = true) (h4 : e52.den env = false) (h5 : e71.den env = false) : False := by
  simp only [e49, e50, e61, e51, e52, e71, den_iff, BE.P, IE.den, Bool.not_true, Bool.not_false, Int.ofNat_eq_natCast, den_and, den_add, den_sub, and_low, and_31, and_i31, wrap_u32, wrap_u64, wrap_i32, wrap_i64, wrap_i8, wrap_i16, vA a1 a3, vB a2 a3, v8 a1 a3, v16 a1 a3, ne_eq, not_true_eq_false, not_false_eq_true] at h0 h1 h2 h3 h4 h5 <;> omega
theorem o112 (a0 : 0 ≤ env 0) (b0 : env 0 ≤ 255) (a1 : 0 ≤ env 1) (a2 : 0 ≤ env 2) (a3 : 0 ≤ env 3) (h0 : e49.den env = false) (h1 : e50.den env = false) (h2 : e61.den env = false) (h3 : e51.den env = false) (h4 : e52.den env = true) (h5 : e71.den env = true) : False := by
  simp only [e49, e50, e61, e51, e52, e71, den_iff, BE.P, IE.den, Bool.not_true, Bool.not_false, Int.ofNat_eq_natCast, den_and, den_add, den_sub, and_low, and_31, and_i31, wrap_u32, wrap_u64, wrap_i32, wrap_i64, wrap_i8, wrap_i16, vA a1 a3, vB a2 a3, v8 a1 a3, v16 a1 a3, ne_eq, not_true_eq_false, not_false_eq_true] at h0 h1 h2 h3 h4 h5 <;> omega
theorem o113 (a0 : 0 ≤ env 0) (b0 : env 0 ≤ 255) (a1 : 0 ≤ env 1) (a2 : 0 ≤ env 2) (a3 : 0 ≤ env 3) (h0 : e49.den env = false) (h1 : e50.den env = false) (h2 : e61.den env = false) (h3 : e51.den env = false) (h4 : e52.den env = true) (h5 : e71.den env = false) : False := by
  simp only [e49, e50, e61, e51, e52, e71, den_iff, BE.P, IE.den, Bool.not_true, Bool.not_false, Int.ofNat_eq_natCast, den_and, den_add, den_sub, and_low, and_31, and_i31, wrap_u32, wrap_u64, wrap_i32, wrap_i64, wrap_i8, wrap_i16, vA a1 a3, vB a2 a3, v8 a1 a3, v16 a1 a3, ne_eq, not_true_eq_false, not_false_eq_true] at h0 h1 h2 h3 h4 h5 <;> omega
theorem o114 (a0 : 0 ≤ env 0) (b0 : env 0 ≤ 255) (a1 : 0 ≤ env 1) (a2 : 0 ≤ env 2) (a3 : 0 ≤ env 3) (h0 : e49.den env = false) (h1 : e50.den env = false) (h2 : e61.den env = false) (h3 : e51.den env = false) (h4 : e52.den env = false) (h5 : e55.den env = true) : False := by
  simp only [e49, e50, e61, e51, e52, e55, den_iff, BE.P, IE.den, Bool.not_true, Bool.not_false, Int.ofNat_eq_natCast, den_and, den_add, den_sub, and_low, and_31, and_i31, wrap_u32, wrap_u64, wrap_i32, wrap_i64, wrap_i8, wrap_i16, vA a1 a3, vB a2 a3, v8 a1 a3, v16 a1 a3, ne_eq, not_true_eq_false, not_false_eq_true] at h0 h1 h2 h3 h4 h5 <;> omega
theorem t115 (a0 : 0 ≤ env 0) (b0 : env 0 ≤ 255) (a1 : 0 ≤ env 1) (a2 : 0 ≤ env 2) (a3 : 0 ≤ env 3) : BE.den env (.lt (.bin .and .u64 (.wrap .u64 (.bin .tmod .i64 (.wrap .i64 (.wrap .i32 (.bin .and .u64 (.v 1) (.c (.ofNat 4294967295))))) (.wrap .i64 (.wrap .i32 (.bin .and .u64 (.v 2) (.c (.ofNat 4294967295))))))) (.c (.ofNat 4294967295))) (.c (.ofNat 4294967296))) = true := by
  simp only [den_iff, BE.P, IE.den, Bool.not_true, Bool.not_false, Int.ofNat_eq_natCast, den_and, den_add, den_sub, and_low, and_31, and_i31, wrap_u32, wrap_u64, wrap_i32, wrap_i64, wrap_i8, wrap_i16, vA a1 a3, vB a2 a3, v8 a1 a3, v16 a1 a3, ne_eq, not_true_eq_false, not_false_eq_true]
  omega
theorem o116 (a0 : 0 ≤ env 0) (b0 : env 0 ≤ 255) (a1 : 0 ≤ env 1) (a2 : 0 ≤ env 2) (a3 : 0 ≤ env 3) (h0 : e49.den env = false) (h1 : e50.den env = false) (h2 : e61.den env = false) (h3 : e51.den env = false) (h4 : e52.den env = false) (h5 : e55.den env = false) (h6 : e72.den env = false) : False := by
  simp only [e49, e50, e61, e51, e52, e55, e72, den_iff, BE.P, IE.den, Bool.not_true, Bool.not_false, Int.ofNat_eq_natCast, den_and, den_add, den_sub, and_low, and_31, and_i31, wrap_u32, wrap_u64, wrap_i32, wrap_i64, wrap_i8, wrap_i16, vA a1 a3, vB a2 a3, v8 a1 a3, v16 a1 a3, ne_eq, not_true_eq_false, not_false_eq_true] at h0 h1 h2 h3 h4 h5 h6 <;> omega
theorem o117 (a0 : 0 ≤ env 0) (b0 : env 0 ≤ 255) (a1 : 0 ≤ env 1) (a2 : 0 ≤ env 2) (a3 : 0 ≤ env 3) (h0 : e49.den env = true) (h1 : e50.den env = true) (h2 : e51.den env = true) (h3 : e52.den env = false) (h4 : e74.den env = true) : False := by
  simp only [e49, e50, e51, e52, e74, den_iff, BE.P, IE.den, Bool.not_true, Bool.not_false, Int.ofNat_eq_natCast, den_and, den_add, den_sub, and_low, and_31, and_i31, wrap_u32, wrap_u64, wrap_i32, wrap_i64, wrap_i8, wrap_i16, vA a1 a3, vB a2 a3, v8 a1 a3, v16 a1 a3, ne_eq, not_true_eq_false, not_false_eq_true] at h0 h1 h2 h3 h4 <;> omega
theorem o118 (a0 : 0 ≤ env 0) (b0 : env 0 ≤ 255) (a1 : 0 ≤ env 1) (a2 : 0 ≤ env 2) (a3 : 0 ≤ env 3) (h0 : e49.den env = true) (h1 : e50.den env = true) (h2 : e51.den env = true) (h3 : e52.den env = false) (h4 : e74.den env = false) : False := by
  simp only [e49, e50, e51, e52, e74, den_iff, BE.P, IE.den, Bool.not_true, Bool.not_false, Int.ofNat_eq_natCast, den_and, den_add, den_sub, and_low, and_31, and_i31, wrap_u32, wrap_u64, wrap_i32, wrap_i64, wrap_i8, wrap_i16, vA a1 a3, vB a2 a3, v8 a1 a3, v16 a1 a3, ne_eq, not_true_eq_false, not_false_eq_true] at h0 h1 h2 h3 h4 <;> omega
theorem o119 (a0 : 0 ≤ env 0) (b0 : env 0 ≤ 255) (a1 : 0 ≤ env 1) (a2 : 0 ≤ env 2) (a3 : 0 ≤ env 3) (h0 : e49.den env = true) (h1 : e50.den env = true) (h2 : e51.den env = false) (h3 : e52.den env = false) (h4 : e74.den env = true) : False := by
  simp only [e49, e50, e51, e52, e74, den_iff, BE.P, IE.den, Bool.not_true, Bool.not_false, Int.ofNat_eq_natCast, den_and, den_add, den_sub, and_low, and_31, and_i31, wrap_u32, wrap_u64, wrap_i32, wrap_i64, wrap_i8, wrap_i16, vA a1 a3, vB a2 a3, v8 a1 a3, v16 a1 a3, ne_eq, not_true_eq_false, not_false_eq_true] at h0 h1 h2 h3 h4 <;> omega
theorem o120 (a0 : 0 ≤ env 0) (b0 : env 0 ≤ 255) (a1 : 0 ≤ env 1) (a2 : 0 ≤ env 2) (a3 : 0 ≤ env 3) (h0 : e49.den env = true) (h1 : e50.den env = true) (h2 : e51.den env = false) (h3 : e52.den env = false) (h4 : e74.den env = false) : False := by
  simp only [e49, e50, e51, e52, e74, den_iff, BE.P, IE.den, Bool.not_true, Bool.not_false, Int.ofNat_eq_natCast, den_and, den_add, den_sub, and_low, and_31, and_i31, wrap_u32, wrap_u64, wrap_i32, wrap_i64, wrap_i8, wrap_i16, vA a1 a3, vB a2 a3, v8 a1 a3, v16 a1 a3, ne_eq, not_true_eq_false, not_false_eq_true] at h0 h1 h2 h3 h4 <;> omega
theorem o121 (a0 : 0 ≤ env 0) (b0 : env 0 ≤ 255) (a1 : 0 ≤ env 1) (a2 : 0 ≤ env 2) (a3 : 0 ≤ env 3) (h0 : e49.den env = true) (h1 : e50.den env = false) (h2 : e51.den env = true) (h3 : e52.den env = true) (h4 : e75.den env = true) : False := by
  simp only [e49, e50, e51, e52, e75, den_iff, BE.P, IE.den, Bool.not_true, Bool.not_false, Int.ofNat_eq_natCast, den_and, den_add, den_sub, and_low, and_31, and_i31, wrap_u32, wrap_u64, wrap_i32, wrap_i64, wrap_i8, wrap_i16, vA a1 a3, vB a2 a3, v8 a1 a3, v16 a1 a3, ne_eq, not_true_eq_false, not_false_eq_true] at h0 h1 h2 h3 h4 <;> omega
theorem o122 (a0 : 0 ≤ env 0) (b0 : env 0 ≤ 255) (a1 : 0 ≤ env 1) (a2 : 0 ≤ env 2) (a3 : 0 ≤ env 3) (h0 : e49.den env = true) (h1 : e50.den env = false) (h2 : e51.den env = true) (h3 : e52.den env = true) (h4 : e75.den env = false) : False := by
  simp only [e49, e50, e51, e52, e75, den_iff, BE.P, IE.den, Bool.not_true, Bool.not_false, Int.ofNat_eq_natCast, den_and, den_add, den_sub, and_low, and_31, and_i31, wrap_u32, wrap_u64, wrap_i32, wrap_i64, wrap_i8, wrap_i16, vA a1 a3, vB a2 a3, v8 a1 a3, v16 a1 a3, ne_eq, not_true_eq_false, not_false_eq_true] at h0 h1 h2 h3 h4 <;> omega
theorem t123 (a0 : 0 ≤ env 0) (b0 : env 0 ≤ 255) (a1 : 0 ≤ env 1) (a2 : 0 ≤ env 2) (a3 : 0 ≤ env 3) : BE.den env (.lt (.bin .and .u64 (.bin .tmod .u64 (.bin .and .u64 (.v 1) (.c (.ofNat 4294967295))) (.bin .and .u64 (.v 2) (.c (.ofNat 4294967295)))) (.c (.ofNat 4294967295))) (.c (.ofNat 4294967296))) = true := by
  simp only [den_iff, BE.P, IE.den, Bool.not_true, Bool.not_false, Int.ofNat_eq_natCast, den_and, den_add, den_sub, and_low, and_31, and_i31, wrap_u32, wrap_u64, wrap_i32, wrap_i64, wrap_i8, wrap_i16, vA a1 a3, vB a2 a3, v8 a1 a3, v16 a1 a3, ne_eq, not_true_eq_false, not_false_eq_true]
  omega
theorem o124 (a0 : 0 ≤ env 0) (b0 : env 0 ≤ 255) (a1 : 0 ≤ env 1) (a2 : 0 ≤ env 2) (a3 : 0 ≤ env 3) (h0 : e49.den env = true) (h1 : e50.den env = false) (h2 : e51.den env = true) (h3 : e52.den env = false) (h4 : e76.den env = false) : False := by
  simp only [e49, e50, e51, e52, e76, den_iff, BE.P, IE.den, Bool.not_true, Bool.not_false, Int.ofNat_eq_natCast, den_and, den_add, den_sub, and_low, and_31, and_i31, wrap_u32, wrap_u64, wrap_i32, wrap_i64, wrap_i8, wrap_i16, vA a1 a3, vB a2 a3, v8 a1 a3, v16 a1 a3, ne_eq, not_true_eq_false, not_false_eq_true] at h0 h1 h2 h3 h4 <;> omega
theorem o125 (a0 : 0 ≤ env 0) (b0 : env 0 ≤ 255) (a1 : 0 ≤ env 1) (a2 : 0 ≤ env 2) (a3 : 0 ≤ env 3) (h0 : e49.den env = true) (h1 : e50.den env = false) (h2 : e51.den env = false) (h3 : e52.den env = true) (h4 : e75.den env = true) : False := by
  simp only [e49, e50, e51, e52, e75, den_iff, BE.P, IE.den, Bool.not_true, Bool.not_false, Int.ofNat_eq_natCast, den_and, den_add, den_sub, and_low, and_31, and_i31, wrap_u32, wrap_u64, wrap_i32, wrap_i64, wrap_i8, wrap_i16, vA a1 a3, vB a2 a3, v8 a1 a3, v16 a1 a3, ne_eq, not_true_eq_false, not_false_eq_true] at h0 h1 h2 h3 h4 <;> omega
theorem o126 (a0 : 0 ≤ env 0) (b0 : env 0 ≤ 255) (a1 : 0 ≤ env 1) (a2 : 0 ≤ env 2) (a3 : 0 ≤ env 3) (h0 : e49.den env = true) (h1 : e50.den env = false) (h2 : e51.den env = false) (h3 : e52.den env = true) (h4 : e75.den env = false) : False := by
  simp only [e49, e50, e51, e52, e75, den_iff, BE.P, IE.den, Bool.not_true, Bool.not_false, Int.ofNat_eq_natCast, den_and, den_add, den_sub, and_low, and_31, and_i31, wrap_u32, wrap_u64, wrap_i32, wrap_i64, wrap_i8, wrap_i16, vA a1 a3, vB a2 a3, v8 a1 a3, v16 a1 a3, ne_eq, not_true_eq_false, not_false_eq_true] at h0 h1 h2 h3 h4 <;> omega
theorem t127 (a0 : 0 ≤ env 0) (b0 : env 0 ≤ 255) (a1 : 0 ≤ env 1) (a2 : 0 ≤ env 2) (a3 : 0 ≤ env 3) : BE.den env (.lt (.bin .and .u64 (.bin .tmod .u64 (.bin .and .u64 (.v 1) (.c (.ofNat 4294967295))) (.bin .and .u64 (.v 2) (.c (.ofNat 4294967295)))) (.c (.ofNat 4294967295))) (.c (.ofNat 4294967296))) = true := by
  simp only [den_iff, BE.P, IE.den, Bool.not_true, Bool.not_false, Int.ofNat_eq_natCast, den_and, den_add, den_sub, and_low, and_31, and_i31, wrap_u32, wrap_u64, wrap_i32, wrap_i64, wrap_i8, wrap_i16, vA a1 a3, vB a2 a3, v8 a1 a3, v16 a1 a3, ne_eq, not_true_eq_false, not_false_eq_true]
  omega
theorem o128 (a0 : 0 ≤ env 0) (b0 : env 0 ≤ 255) (a1 : 0 ≤ env 1) (a2 : 0 ≤ env 2) (a3 : 0 ≤ env 3) (h0 : e49.den env = true) (h1 : e50.den env = false) (h2 : e51.den env = false) (h3 : e52.den env = false) (h4 : e76.den env = false) : False := by
  simp only [e49, e50, e51, e52, e76, den_iff, BE.P, IE.den, Bool.not_true, Bool.not_false, Int.ofNat_eq_natCast, den_and, den_add, den_sub, and_low, and_31, and_i31, wrap_u32, wrap_u64, wrap_i32, wrap_i64, wrap_i8, wrap_i16, vA a1 a3, vB a2 a3, v8 a1 a3, v16 a1 a3, ne_eq, not_true_eq_false, not_false_eq_true] at h0 h1 h2 h3 h4 <;> omega
theorem o129 (a0 : 0 ≤ env 0) (b0 : env 0 ≤ 255) (a1 : 0 ≤ env 1) (a2 : 0 ≤ env 2) (a3 : 0 ≤ env 3) (h0 : e49.den env = false) (h1 : e50.den env = true) (h2 : e51.den env = true) (h3 : e52.den env = false) (h4 : e74.den env = true) : False := by
  simp only [e49, e50, e51, e52, e74, den_iff, BE.P, IE.den, Bool.not_true, Bool.not_false, Int.ofNat_eq_natCast, den_and, den_add, den_sub, and_low, and_31, and_i31, wrap_u32, wrap_u64, wrap_i32, wrap_i64, wrap_i8, wrap_i16, vA a1 a3, vB a2 a3, v8 a1 a3, v16 a1 a3, ne_eq, not_true_eq_false, not_false_eq_true] at h0 h1 h2 h3 h4 <;> omega
theorem o130 (a0 : 0 ≤ env 0) (b0 : env 0 ≤ 255) (a1 : 0 ≤ env 1) (a2 : 0 ≤ env 2) (a3 : 0 ≤ env 3) (h0 : e49.den env = false) (h1 : e50.den env = true) (h2 : e51.den env = true) (h3 : e52.den env = false) (h4 : e74.den env = false) : False := by
  simp only [e49, e50, e51, e52, e74, den_iff, BE.P, IE.den, Bool.not_true, Bool.not_false, Int.ofNat_eq_natCast, den_and, den_add, den_sub, and_low, and_31, and_i31, wrap_u32, wrap_u64, wrap_i32, wrap_i64, wrap_i8, wrap_i16, vA a1 a3, vB a2 a3, v8 a1 a3, v16 a1 a3, ne_eq, not_true_eq_false, not_false_eq_true] at h0 h1 h2 h3 h4 <;> omega
theorem o131 (a0 : 0 ≤ env 0) (b0 : env 0 ≤ 255) (a1 : 0 ≤ env 1) (a2 : 0 ≤ env 2) (a3 : 0 ≤ env 3) (h0 : e49.den env = false) (h1 : e50.den env = true) (h2 : e51.den env = false) (h3 : e52.den env = false) (h4 : e74.den env = true) : False := by
  simp only [e49, e50, e51, e52, e74, den_iff, BE.P, IE.den, Bool.not_true, Bool.not_false, Int.ofNat_eq_natCast, den_and, den_add, den_sub, and_low, and_31, and_i31, wrap_u32, wrap_u64, wrap_i32, wrap_i64, wrap_i8, wrap_i16, vA a1 a3, vB a2 a3, v8 a1 a3, v16 a1 a3, ne_eq, not_true_eq_false, not_false_eq_true] at h0 h1 h2 h3 h4 <;> omega
theorem o132 (a0 : 0 ≤ env 0) (b0 : env 0 ≤ 255) (a1 : 0 ≤ env 1) (a2 : 0 ≤ env 2) (a3 : 0 ≤ env 3) (h0 : e49.den env = false) (h1 : e50.den env = true) (h2 : e51.den env = false) (h3 : e52.den env = false) (h4 : e74.den env = false) : False := by
  simp only [e49, e50, e51, e52, e74, den_iff, BE.P, IE.den, Bool.not_true, Bool.not_false, Int.ofNat_eq_natCast, den_and, den_add, den_sub, and_low, and_31, and_i31, wrap_u32, wrap_u64, wrap_i32, wrap_i64, wrap_i8, wrap_i16, vA a1 a3, vB a2 a3, v8 a1 a3, v16 a1 a3, ne_eq, not_true_eq_false, not_false_eq_true] at h0 h1 h2 h3 h4 <;> omega
theorem o133 (a0 : 0 ≤ env 0) (b0 : env 0 ≤ 255) (a1 : 0 ≤ env 1) (a2 : 0 ≤ env 2) (a3 : 0 ≤ env 3) (h0 : e49.den env = false) (h1 : e50.den env = false) (h2 : e51.den env = true) (h3 : e52.den env = true) (h4 : e75.den env = true) : False := by
  simp only [e49, e50, e51, e52, e75, den_iff, BE.P, IE.den, Bool.not_true, Bool.not_false, Int.ofNat_eq_natCast, den_and, den_add, den_sub, and_low, and_31, and_i31, wrap_u32, wrap_u64, wrap_i32, wrap_i64, wrap_i8, wrap_i16, vA a1 a3, vB a2 a3, v8 a1 a3, v16 a1 a3, ne_eq, not_true_eq_false, not_false_eq_true] at h0 h1 h2 h3 h4 <;> omega
theorem o134 (a0 : 0 ≤ env 0) (b0 : env 0 ≤ 255) (a1 : 0 ≤ env 1) (a2 : 0 ≤ env 2) (a3 : 0 ≤ env 3) (h0 : e49.den env = false) (h1 : e50.den env = false) (h2 : e51.den env = true) (h3 : e52.den env = true) (h4 : e75.den env = false) : False := by
  simp only [e49, e50, e51, e52, e75, den_iff, BE.P, IE.den, Bool.not_true, Bool.not_false, Int.ofNat_eq_natCast, den_and, den_add, den_sub, and_low, and_31, and_i31, wrap_u32, wrap_u64, wrap_i32, wrap_i64, wrap_i8, wrap_i16, vA a1 a3, vB a2 a3, v8 a1 a3, v16 a1 a3, ne_eq, not_true_eq_false, not_false_eq_true] at h0 h1 h2 h3 h4 <;> omega
theorem t135 (a0 : 0 ≤ env 0) (b0 : env 0 ≤ 255) (a1 : 0 ≤ env 1) (a2 : 0 ≤ env 2) (a3 : 0 ≤ env 3) : BE.den env (.lt (.bin .and .u64 (.bin .tmod .u64 (.bin .and .u64 (.v 1) (.c (.ofNat 4294967295))) (.bin .and .u64 (.v 2) (.c (.ofNat 4294967295)))) (.c (.ofNat 4294967295))) (.c (.ofNat 4294967296))) = true := by
  simp only [den_iff, BE.P, IE.den, Bool.not_true, Bool.not_false, Int.ofNat_eq_natCast, den_and, den_add, den_sub, and_low, and_31, and_i31, wrap_u32, wrap_u64, wrap_i32, wrap_i64, wrap_i8, wrap_i16, vA a1 a3, vB a2 a3, v8 a1 a3, v16 a1 a3, ne_eq, not_true_eq_false, not_false_eq_true]
  omega
theorem o136 (a0 : 0 ≤ env 0) (b0 : env 0 ≤ 255) (a1 : 0 ≤ env 1) (a2 : 0 ≤ env 2) (a3 : 0 ≤ env 3) (h0 : e49.den env = false) (h1 : e50.den env = false) (h2 : e51.den env = true) (h3 : e52.den env = false) (h4 : e76.den env = false) : False := by
  simp only [e49, e50, e51, e52, e76, den_iff, BE.P, IE.den, Bool.not_true, Bool.not_false, Int.ofNat_eq_natCast, den_and, den_add, den_sub, and_low, and_31, and_i31, wrap_u32, wrap_u64, wrap_i32, wrap_i64, wrap_i8, wrap_i16, vA a1 a3, vB a2 a3, v8 a1 a3, v16 a1 a3, ne_eq, not_true_eq_false, not_false_eq_true] at h0 h1 h2 h3 h4 <;> omega
theorem o137 (a0 : 0 ≤ env 0) (b0 : env 0 ≤ 255) (a1 : 0 ≤ env 1) (a2 : 0 ≤ env 2) (a3 : 0 ≤ env 3) (h0 : e49.den env = false) (h1 : e50.den env = false) (h2 : e51.den env = false) (h3 : e52.den env = true) (h4 : e75.den env = true) : False := by
  simp only [e49, e50, e51, e52, e75, den_iff, BE.P, IE.den, Bool.not_true, Bool.not_false, Int.ofNat_eq_natCast, den_and, den_add, den_sub, and_low, and_31, and_i31, wrap_u32, wrap_u64, wrap_i32, wrap_i64, wrap_i8, wrap_i16, vA a1 a3, vB a2 a3, v8 a1 a3, v16 a1 a3, ne_eq, not_true_eq_false, not_false_eq_true] at h0 h1 h2 h3 h4 <;> omega
theorem o138 (a0 : 0 ≤ env 0) (b0 : env 0 ≤ 255) (a1 : 0 ≤ env 1) (a2 : 0 ≤ env 2) (a3 : 0 ≤ env 3) (h0 : e49.den env = false) (h1 : e50.den env = false) (h2 : e51.den env = false) (h3 : e52.den env = true) (h4 : e75.den env = false) : False := by
  simp only [e49, e50, e51, e52, e75, den_iff, BE.P, IE.den, Bool.not_true, Bool.not_false, Int.ofNat_eq_natCast, den_and, den_add, den_sub, and_low, and_31, and_i31, wrap_u32, wrap_u64, wrap_i32, wrap_i64, wrap_i8, wrap_i16, vA a1 a3, vB a2 a3, v8 a1 a3, v16 a1 a3, ne_eq, not_true_eq_false, not_false_eq_true] at h0 h1 h2 h3 h4 <;> omega
theorem t139 (a0 : 0 ≤ env 0) (b0 : env 0 ≤ 255) (a1 : 0 ≤ env 1) (a2 : 0 ≤ env 2) (a3 : 0 ≤ env 3) : BE.den env (.lt (.bin .and .u64 (.bin .tmod .u64 (.bin .and .u64 (.v 1) (.c (.ofNat 4294967295))) (.bin .and .u64 (.v 2) (.c (.ofNat 4294967295)))) (.c (.ofNat 4294967295))) (.c (.ofNat 4294967296))) = true := by
  simp only [den_iff, BE.P, IE.den, Bool.not_true, Bool.not_false, Int.ofNat_eq_natCast, den_and, den_add, den_sub, and_low, and_31, and_i31, wrap_u32, wrap_u64, wrap_i32, wrap_i64, wrap_i8, wrap_i16, vA a1 a3, vB a2 a3, v8 a1 a3, v16 a1 a3, ne_eq, not_true_eq_false, not_false_eq_true]
  omega
theorem o140 (a0 : 0 ≤ env 0) (b0 : env 0 ≤ 255) (a1 : 0 ≤ env 1) (a2 : 0 ≤ env 2) (a3 : 0 ≤ env 3) (h0 : e49.den env = false) (h1 : e50.den env = false) (h2 : e51.den env = false) (h3 : e52.den env = false) (h4 : e76.den env = false) : False := by
  simp only [e49, e50, e51, e52, e76, den_iff, BE.P, IE.den, Bool.not_true, Bool.not_false, Int.ofNat_eq_natCast, den_and, den_add, den_sub, and_low, and_31, and_i31, wrap_u32, wrap_u64, wrap_i32, wrap_i64, wrap_i8, wrap_i16, vA a1 a3, vB a2 a3, v8 a1 a3, v16 a1 a3, ne_eq, not_true_eq_false, not_false_eq_true] at h0 h1 h2 h3 h4 <;> omega
theorem t141 (a0 : 0 ≤ env 0) (b0 : env 0 ≤ 255) (a1 : 0 ≤ env 1) (a2 : 0 ≤ env 2) (a3 : 0 ≤ env 3) : BE.den env (.lt (.bin .and .u64 (.bin .and .u64 (.bin .and .u64 (.v 1) (.c (.ofNat 4294967295))) (.bin .and .u64 (.v 2) (.c (.ofNat 4294967295)))) (.c (.ofNat 4294967295))) (.c (.ofNat 4294967296))) = true := by
  simp only [den_iff, BE.P, IE.den, Bool.not_true, Bool.not_false, Int.ofNat_eq_natCast, den_and, den_add, den_sub, and_low, and_31, and_i31, wrap_u32, wrap_u64, wrap_i32, wrap_i64, wrap_i8, wrap_i16, vA a1 a3, vB a2 a3, v8 a1 a3, v16 a1 a3, ne_eq, not_true_eq_false, not_false_eq_true]
  omega
theorem o142 (a0 : 0 ≤ env 0) (b0 : env 0 ≤ 255) (a1 : 0 ≤ env 1) (a2 : 0 ≤ env 2) (a3 : 0 ≤ env 3) (h0 : e78.den env = false) : False := by
  simp only [e78, den_iff, BE.P, IE.den, Bool.not_true, Bool.not_false, Int.ofNat_eq_natCast, den_and, den_add, den_sub, and_low, and_31, and_i31, wrap_u32, wrap_u64, wrap_i32, wrap_i64, wrap_i8, wrap_i16, vA a1 a3, vB a2 a3, v8 a1 a3, v16 a1 a3, ne_eq, not_true_eq_false, not_false_eq_true] at h0 <;> omega
theorem t143 (a0 : 0 ≤ env 0) (b0 : env 0 ≤ 255) (a1 : 0 ≤ env 1) (a2 : 0 ≤ env 2) (a3 : 0 ≤ env 3) : BE.den env (.lt (.bin .and .u64 (.bin .or .u64 (.bin .and .u64 (.v 1) (.c (.ofNat 4294967295))) (.bin .and .u64 (.v 2) (.c (.ofNat 4294967295)))) (.c (.ofNat 4294967295))) (.c (.ofNat 4294967296))) = true := by
  simp only [den_iff, BE.P, IE.den, Bool.not_true, Bool.not_false, Int.ofNat_eq_natCast, den_and, den_add, den_sub, and_low, and_31, and_i31, wrap_u32, wrap_u64, wrap_i32, wrap_i64, wrap_i8, wrap_i16, vA a1 a3, vB a2 a3, v8 a1 a3, v16 a1 a3, ne_eq, not_true_eq_false, not_false_eq_true]
  omega
theorem o144 (a0 : 0 ≤ env 0) (b0 : env 0 ≤ 255) (a1 : 0 ≤ env 1) (a2 : 0 ≤ env 2) (a3 : 0 ≤ env 3) (h0 : e80.den env = false) : False := by
  simp only [e80, den_iff, BE.P, IE.den, Bool.not_true, Bool.not_false, Int.ofNat_eq_natCast, den_and, den_add, den_sub, and_low, and_31, and_i31, wrap_u32, wrap_u64, wrap_i32, wrap_i64, wrap_i8, wrap_i16, vA a1 a3, vB a2 a3, v8 a1 a3, v16 a1 a3, ne_eq, not_true_eq_false, not_false_eq_true] at h0 <;> omega
theorem t145 (a0 : 0 ≤ env 0) (b0 : env 0 ≤ 255) (a1 : 0 ≤ env 1) (a2 : 0 ≤ env 2) (a3 : 0 ≤ env 3) : BE.den env (.lt (.bin .and .u64 (.bin .xor .u64 (.bin .and .u64 (.v 1) (.c (.ofNat 4294967295))) (.bin .and .u64 (.v 2) (.c (.ofNat 4294967295)))) (.c (.ofNat 4294967295))) (.c (.ofNat 4294967296))) = true := by
  simp only [den_iff, BE.P, IE.den, Bool.not_true, Bool.not_false, Int.ofNat_eq_natCast, den_and, den_add, den_sub, and_low, and_31, and_i31, wrap_u32, wrap_u64, wrap_i32, wrap_i64, wrap_i8, wrap_i16, vA a1 a3, vB a2 a3, v8 a1 a3, v16 a1 a3, ne_eq, not_true_eq_false, not_false_eq_true]
  omega
theorem o146 (a0 : 0 ≤ env 0) (b0 : env 0 ≤ 255) (a1 : 0 ≤ env 1) (a2 : 0 ≤ env 2) (a3 : 0 ≤ env 3) (h0 : e82.den env = false) : False := by
  simp only [e82, den_iff, BE.P, IE.den, Bool.not_true, Bool.not_false, Int.ofNat_eq_natCast, den_and, den_add, den_sub, and_low, and_31, and_i31, wrap_u32, wrap_u64, wrap_i32, wrap_i64, wrap_i8, wrap_i16, vA a1 a3, vB a2 a3, v8 a1 a3, v16 a1 a3, ne_eq, not_true_eq_false, not_false_eq_true] at h0 <;> omega
theorem t147 (a0 : 0 ≤ env 0) (b0 : env 0 ≤ 255) (a1 : 0 ≤ env 1) (a2 : 0 ≤ env 2) (a3 : 0 ≤ env 3) : BE.den env (.lt (.bin .and .u64 (.wrap .u64 (.bin .shl .u64 (.bin .and .u64 (.v 1) (.c (.ofNat 4294967295))) (.bin .and .i64 (.wrap .i64 (.bin .and .u64 (.v 2) (.c (.ofNat 4294967295)))) (.c (.ofNat 31))))) (.c (.ofNat 4294967295))) (.c (.ofNat 4294967296))) = true := by
  simp only [den_iff, BE.P, IE.den, Bool.not_true, Bool.not_false, Int.ofNat_eq_natCast, den_and, den_add, den_sub, and_low, and_31, and_i31, wrap_u32, wrap_u64, wrap_i32, wrap_i64, wrap_i8, wrap_i16, vA a1 a3, vB a2 a3, v8 a1 a3, v16 a1 a3, ne_eq, not_true_eq_false, not_false_eq_true]
  omega
theorem o148 (a0 : 0 ≤ env 0) (b0 : env 0 ≤ 255) (a1 : 0 ≤ env 1) (a2 : 0 ≤ env 2) (a3 : 0 ≤ env 3) (h0 : e84.den env = true) (h1 : e85.den env = true) (h2 : e86.den env = false) : False := by
  simp only [e84, e85, e86, den_iff, BE.P, IE.den, Bool.not_true, Bool.not_false, Int.ofNat_eq_natCast, den_and, den_add, den_sub, and_low, and_31, and_i31, wrap_u32, wrap_u64, wrap_i32, wrap_i64, wrap_i8, wrap_i16, vA a1 a3, vB a2 a3, v8 a1 a3, v16 a1 a3, ne_eq, not_true_eq_false, not_false_eq_true] at h0 h1 h2 <;> omega
theorem o149 (a0 : 0 ≤ env 0) (b0 : env 0 ≤ 255) (a1 : 0 ≤ env 1) (a2 : 0 ≤ env 2) (a3 : 0 ≤ env 3) (h0 : e84.den env = true) (h1 : e85.den env = false) : False := by
  simp only [e84, e85, den_iff, BE.P, IE.den, Bool.not_true, Bool.not_false, Int.ofNat_eq_natCast, den_and, den_add, den_sub, and_low, and_31, and_i31, wrap_u32, wrap_u64, wrap_i32, wrap_i64, wrap_i8, wrap_i16, vA a1 a3, vB a2 a3, v8 a1 a3, v16 a1 a3, ne_eq, not_true_eq_false, not_false_eq_true] at h0 h1 <;> omega
theorem o150 (a0 : 0 ≤ env 0) (b0 : env 0 ≤ 255) (a1 : 0 ≤ env 1) (a2 : 0 ≤ env 2) (a3 : 0 ≤ env 3) (h0 : e84.den env = false) : False := by
  simp only [e84, den_iff, BE.P, IE.den, Bool.not_true, Bool.not_false, Int.ofNat_eq_natCast, den_and, den_add, den_sub, and_low, and_31, and_i31, wrap_u32, wrap_u64, wrap_i32, wrap_i64, wrap_i8, wrap_i16, vA a1 a3, vB a2 a3, v8 a1 a3, v16 a1 a3, ne_eq, not_true_eq_false, not_false_eq_true] at h0 <;> omega
theorem t151 (a0 : 0 ≤ env 0) (b0 : env 0 ≤ 255) (a1 : 0 ≤ env 1) (a2 : 0 ≤ env 2) (a3 : 0 ≤ env 3) : BE.den env (.lt (.bin .and .u64 (.wrap .u64 (.bin .shr .i64 (.wrap .i64 (.wrap .i32 (.bin .and .u64 (.v 1) (.c (.ofNat 4294967295))))) (.bin .and .i64 (.wrap .i64 (.bin .and .u64 (.v 2) (.c (.ofNat 4294967295)))) (.c (.ofNat 31))))) (.c (.ofNat 4294967295))) (.c (.ofNat 4294967296))) = true := by
  simp only [den_iff, BE.P, IE.den, Bool.not_true, Bool.not_false, Int.ofNat_eq_natCast, den_and, den_add, den_sub, and_low, and_31, and_i31, wrap_u32, wrap_u64, wrap_i32, wrap_i64, wrap_i8, wrap_i16, vA a1 a3, vB a2 a3, v8 a1 a3, v16 a1 a3, ne_eq, not_true_eq_false, not_false_eq_true]
  omega
theorem o152 (a0 : 0 ≤ env 0) (b0 : env 0 ≤ 255) (a1 : 0 ≤ env 1) (a2 : 0 ≤ env 2) (a3 : 0 ≤ env 3) (h0 : e84.den env = true) (h1 : e85.den env = true) (h2 : e88.den env = false) : False := by
  simp only [e84, e85, e88, den_iff, BE.P, IE.den, Bool.not_true, Bool.not_false, Int.ofNat_eq_natCast, den_and, den_add, den_sub, and_low, and_31, and_i31, wrap_u32, wrap_u64, wrap_i32, wrap_i64, wrap_i8, wrap_i16, vA a1 a3, vB a2 a3, v8 a1 a3, v16 a1 a3, ne_eq, not_true_eq_false, not_false_eq_true] at h0 h1 h2 <;> omega
theorem o153 (a0 : 0 ≤ env 0) (b0 : env 0 ≤ 255) (a1 : 0 ≤ env 1) (a2 : 0 ≤ env 2) (a3 : 0 ≤ env 3) (h0 : e84.den env = true) (h1 : e85.den env = false) : False := by
  simp only [e84, e85, den_iff, BE.P, IE.den, Bool.not_true, Bool.not_false, Int.ofNat_eq_natCast, den_and, den_add, den_sub, and_low, and_31, and_i31, wrap_u32, wrap_u64, wrap_i32, wrap_i64, wrap_i8, wrap_i16, vA a1 a3, vB a2 a3, v8 a1 a3, v16 a1 a3, ne_eq, not_true_eq_false, not_false_eq_true] at h0 h1 <;> omega
theorem o154 (a0 : 0 ≤ env 0) (b0 : env 0 ≤ 255) (a1 : 0 ≤ env 1) (a2 : 0 ≤ env 2) (a3 : 0 ≤ env 3) (h0 : e84.den env = false) : False := by
  simp only [e84, den_iff, BE.P, IE.den, Bool.not_true, Bool.not_false, Int.ofNat_eq_natCast, den_and, den_add, den_sub, and_low, and_31, and_i31, wrap_u32, wrap_u64, wrap_i32, wrap_i64, wrap_i8, wrap_i16, vA a1 a3, vB a2 a3, v8 a1 a3, v16 a1 a3, ne_eq, not_true_eq_false, not_false_eq_true] at h0 <;> omega
theorem t155 (a0 : 0 ≤ env 0) (b0 : env 0 ≤ 255) (a1 : 0 ≤ env 1) (a2 : 0 ≤ env 2) (a3 : 0 ≤ env 3) : BE.den env (.lt (.bin .and .u64 (.bin .shr .u64 (.bin .and .u64 (.v 1) (.c (.ofNat 4294967295))) (.bin .and .i64 (.wrap .i64 (.bin .and .u64 (.v 2) (.c (.ofNat 4294967295)))) (.c (.ofNat 31)))) (.c (.ofNat 4294967295))) (.c (.ofNat 4294967296))) = true := by
  simp only [den_iff, BE.P, IE.den, Bool.not_true, Bool.not_false, Int.ofNat_eq_natCast, den_and, den_add, den_sub, and_low, and_31, and_i31, wrap_u32, wrap_u64, wrap_i32, wrap_i64, wrap_i8, wrap_i16, vA a1 a3, vB a2 a3, v8 a1 a3, v16 a1 a3, ne_eq, not_true_eq_false, not_false_eq_true]
  omega
theorem o156 (a0 : 0 ≤ env 0) (b0 : env 0 ≤ 255) (a1 : 0 ≤ env 1) (a2 : 0 ≤ env 2) (a3 : 0 ≤ env 3) (h0 : e84.den env = true) (h1 : e85.den env = true) (h2 : e90.den env = false) : False := by
  simp only [e84, e85, e90, den_iff, BE.P, IE.den, Bool.not_true, Bool.not_false, Int.ofNat_eq_natCast, den_and, den_add, den_sub, and_low, and_31, and_i31, wrap_u32, wrap_u64, wrap_i32, wrap_i64, wrap_i8, wrap_i16, vA a1 a3, vB a2 a3, v8 a1 a3, v16 a1 a3, ne_eq, not_true_eq_false, not_false_eq_true] at h0 h1 h2 <;> omega
theorem o157 (a0 : 0 ≤ env 0) (b0 : env 0 ≤ 255) (a1 : 0 ≤ env 1) (a2 : 0 ≤ env 2) (a3 : 0 ≤ env 3) (h0 : e84.den env = true) (h1 : e85.den env = false) : False := by
  simp only [e84, e85, den_iff, BE.P, IE.den, Bool.not_true, Bool.not_false, Int.ofNat_eq_natCast, den_and, den_add, den_sub, and_low, and_31, and_i31, wrap_u32, wrap_u64, wrap_i32, wrap_i64, wrap_i8, wrap_i16, vA a1 a3, vB a2 a3, v8 a1 a3, v16 a1 a3, ne_eq, not_true_eq_false, not_false_eq_true] at h0 h1 <;> omega
theorem o158 (a0 : 0 ≤ env 0) (b0 : env 0 ≤ 255) (a1 : 0 ≤ env 1) (a2 : 0 ≤ env 2) (a3 : 0 ≤ env 3) (h0 : e84.den env = false) : False := by
  simp only [e84, den_iff, BE.P, IE.den, Bool.not_true, Bool.not_false, Int.ofNat_eq_natCast, den_and, den_add, den_sub, and_low, and_31, and_i31, wrap_u32, wrap_u64, wrap_i32, wrap_i64, wrap_i8, wrap_i16, vA a1 a3, vB a2 a3, v8 a1 a3, v16 a1 a3, ne_eq, not_true_eq_false, not_false_eq_true] at h0 <;> omega
theorem t159 (a0 : 0 ≤ env 0) (b0 : env 0 ≤ 255) (a1 : 0 ≤ env 1) (a2 : 0 ≤ env 2) (a3 : 0 ≤ env 3) : BE.den env (.lt (.bin .and .u64 (.wrap .u64 (.bin .or .u32 (.wrap .u32 (.bin .shl .u32 (.wrap .u32 (.bin .and .u64 (.v 1) (.c (.ofNat 4294967295)))) (.bin .and .u64 (.wrap .u64 (.bin .and .i64 (.wrap .i64 (.bin .and .u64 (.v 2) (.c (.ofNat 4294967295)))) (.c (.ofNat 31)))) (.c (.ofNat 31))))) (.bin .shr .u32 (.wrap .u32 (.bin .and .u64 (.v 1) (.c (.ofNat 4294967295)))) (.wrap .u64 (.bin .sub .u64 (.c (.ofNat 32)) (.bin .and .u64 (.wrap .u64 (.bin .and .i64 (.wrap .i64 (.bin .and .u64 (.v 2) (.c (.ofNat 4294967295)))) (.c (.ofNat 31)))) (.c (.ofNat 31)))))))) (.c (.ofNat 4294967295))) (.c (.ofNat 4294967296))) = true := by
  simp only [den_iff, BE.P, IE.den, Bool.not_true, Bool.not_false, Int.ofNat_eq_natCast, den_and, den_add, den_sub, and_low, and_31, and_i31, wrap_u32, wrap_u64, wrap_i32, wrap_i64, wrap_i8, wrap_i16, vA a1 a3, vB a2 a3, v8 a1 a3, v16 a1 a3, ne_eq, not_true_eq_false, not_false_eq_true]
  omega
theorem o160 (a0 : 0 ≤ env 0) (b0 : env 0 ≤ 255) (a1 : 0 ≤ env 1) (a2 : 0 ≤ env 2) (a3 : 0 ≤ env 3) (h0 : e92.den env = true) (h1 : e93.den env = true) (h2 : e94.den env = true) (h3 : e95.den env = true) (h4 : e96.den env = false) : False := by
  simp only [e92, e93, e94, e95, e96, den_iff, BE.P, IE.den, Bool.not_true, Bool.not_false, Int.ofNat_eq_natCast, den_and, den_add, den_sub, and_low, and_31, and_i31, wrap_u32, wrap_u64, wrap_i32, wrap_i64, wrap_i8, wrap_i16, vA a1 a3, vB a2 a3, v8 a1 a3, v16 a1 a3, ne_eq, not_true_eq_false, not_false_eq_true] at h0 h1 h2 h3 h4 <;> omega
theorem o161 (a0 : 0 ≤ env 0) (b0 : env 0 ≤ 255) (a1 : 0 ≤ env 1) (a2 : 0 ≤ env 2) (a3 : 0 ≤ env 3) (h0 : e92.den env = true) (h1 : e93.den env = true) (h2 : e94.den env = true) (h3 : e95.den env = false) : False := by
  simp only [e92, e93, e94, e95, den_iff, BE.P, IE.den, Bool.not_true, Bool.not_false, Int.ofNat_eq_natCast, den_and, den_add, den_sub, and_low, and_31, and_i31, wrap_u32, wrap_u64, wrap_i32, wrap_i64, wrap_i8, wrap_i16, vA a1 a3, vB a2 a3, v8 a1 a3, v16 a1 a3, ne_eq, not_true_eq_false, not_false_eq_true] at h0 h1 h2 h3 <;> omega
theorem o162 (a0 : 0 ≤ env 0) (b0 : env 0 ≤ 255) (a1 : 0 ≤ env 1) (a2 : 0 ≤ env 2) (a3 : 0 ≤ env 3) (h0 : e92.den env = true) (h1 : e93.den env = true) (h2 : e94.den env = false) : False := by
  simp only [e92, e93, e94, den_iff, BE.P, IE.den, Bool.not_true, Bool.not_false, Int.ofNat_eq_natCast, den_and, den_add, den_sub, and_low, and_31, and_i31, wrap_u32, wrap_u64, wrap_i32, wrap_i64, wrap_i8, wrap_i16, vA a1 a3, vB a2 a3, v8 a1 a3, v16 a1 a3, ne_eq, not_true_eq_false, not_false_eq_true] at h0 h1 h2 <;> omega
theorem o163 (a0 : 0 ≤ env 0) (b0 : env 0 ≤ 255) (a1 : 0 ≤ env 1) (a2 : 0 ≤ env 2) (a3 : 0 ≤ env 3) (h0 : e92.den env = true) (h1 : e93.den env = false) : False := by
  simp only [e92, e93, den_iff, BE.P, IE.den, Bool.not_true, Bool.not_false, Int.ofNat_eq_natCast, den_and, den_add, den_sub, and_low, and_31, and_i31, wrap_u32, wrap_u64, wrap_i32, wrap_i64, wrap_i8, wrap_i16, vA a1 a3, vB a2 a3, v8 a1 a3, v16 a1 a3, ne_eq, not_true_eq_false, not_false_eq_true] at h0 h1 <;> omega
theorem o164 (a0 : 0 ≤ env 0) (b0 : env 0 ≤ 255) (a1 : 0 ≤ env 1) (a2 : 0 ≤ env 2) (a3 : 0 ≤ env 3) (h0 : e92.den env = false) : False := by
  simp only [e92, den_iff, BE.P, IE.den, Bool.not_true, Bool.not_false, Int.ofNat_eq_natCast, den_and, den_add, den_sub, and_low, and_31, and_i31, wrap_u32, wrap_u64, wrap_i32, wrap_i64, wrap_i8, wrap_i16, vA a1 a3, vB a2 a3, v8 a1 a3, v16 a1 a3, ne_eq, not_true_eq_false, not_false_eq_true] at h0 <;> omega
theorem t165 (a0 : 0 ≤ env 0) (b0 : env 0 ≤ 255) (a1 : 0 ≤ env 1) (a2 : 0 ≤ env 2) (a3 : 0 ≤ env 3) : BE.den env (.lt (.bin .and .u64 (.wrap .u64 (.bin .or .u32 (.wrap .u32 (.bin .shl .u32 (.wrap .u32 (.bin .and .u64 (.v 1) (.c (.ofNat 4294967295)))) (.bin .and .u64 (.wrap .u64 (.wrap .i64 (.bin .sub .i64 (.c (.ofNat 0)) (.bin .and .i64 (.wrap .i64 (.bin .and .u64 (.v 2) (.c (.ofNat 4294967295)))) (.c (.ofNat 31)))))) (.c (.ofNat 31))))) (.bin .shr .u32 (.wrap .u32 (.bin .and .u64 (.v 1) (.c (.ofNat 4294967295)))) (.wrap .u64 (.bin .sub .u64 (.c (.ofNat 32)) (.bin .and .u64 (.wrap .u64 (.wrap .i64 (.bin .sub .i64 (.c (.ofNat 0)) (.bin .and .i64 (.wrap .i64 (.bin .and .u64 (.v 2) (.c (.ofNat 4294967295)))) (.c (.ofNat 31)))))) (.c (.ofNat 31)))))))) (.c (.ofNat 4294967295))) (.c (.ofNat 4294967296))) = true := by
  simp only [den_iff, BE.P, IE.den, Bool.not_true, Bool.not_false, Int.ofNat_eq_natCast, den_and, den_add, den_sub, and_low, and_31, and_i31, wrap_u32, wrap_u64, wrap_i32, wrap_i64, wrap_i8, wrap_i16, vA a1 a3, vB a2 a3, v8 a1 a3, v16 a1 a3, ne_eq, not_true_eq_false, not_false_eq_true]
  omega
theorem o166 (a0 : 0 ≤ env 0) (b0 : env 0 ≤ 255) (a1 : 0 ≤ env 1) (a2 : 0 ≤ env 2) (a3 : 0 ≤ env 3) (h0 : e98.den env = true) (h1 : e99.den env = true) (h2 : e100.den env = true) (h3 : e101.den env = true) (h4 : e102.den env = false) : False := by
  simp only [e98, e99, e100, e101, e102, den_iff, BE.P, IE.den, Bool.not_true, Bool.not_false, Int.ofNat_eq_natCast, den_and, den_add, den_sub, and_low, and_31, and_i31, wrap_u32, wrap_u64, wrap_i32, wrap_i64, wrap_i8, wrap_i16, vA a1 a3, vB a2 a3, v8 a1 a3, v16 a1 a3, ne_eq, not_true_eq_false, not_false_eq_true] at h0 h1 h2 h3 h4 <;> omega
theorem o167 (a0 : 0 ≤ env 0) (b0 : env 0 ≤ 255) (a1 : 0 ≤ env 1) (a2 : 0 ≤ env 2) (a3 : 0 ≤ env 3) (h0 : e98.den env = true) (h1 : e99.den env = true) (h2 : e100.den env = true) (h3 : e101.den env = false) : False := by
  simp only [e98, e99, e100, e101, den_iff, BE.P, IE.den, Bool.not_true, Bool.not_false, Int.ofNat_eq_natCast, den_and, den_add, den_sub, and_low, and_31, and_i31, wrap_u32, wrap_u64, wrap_i32, wrap_i64, wrap_i8, wrap_i16, vA a1 a3, vB a2 a3, v8 a1 a3, v16 a1 a3, ne_eq, not_true_eq_false, not_false_eq_true] at h0 h1 h2 h3 <;> omega
theorem o168 (a0 : 0 ≤ env 0) (b0 : env 0 ≤ 255) (a1 : 0 ≤ env 1) (a2 : 0 ≤ env 2) (a3 : 0 ≤ env 3) (h0 : e98.den env = true) (h1 : e99.den env = true) (h2 : e100.den env = false) : False := by
  simp only [e98, e99, e100, den_iff, BE.P, IE.den, Bool.not_true, Bool.not_false, Int.ofNat_eq_natCast, den_and, den_add, den_sub, and_low, and_31, and_i31, wrap_u32, wrap_u64, wrap_i32, wrap_i64, wrap_i8, wrap_i16, vA a1 a3, vB a2 a3, v8 a1 a3, v16 a1 a3, ne_eq, not_true_eq_false, not_false_eq_true] at h0 h1 h2 <;> omega
theorem o169 (a0 : 0 ≤ env 0) (b0 : env 0 ≤ 255) (a1 : 0 ≤ env 1) (a2 : 0 ≤ env 2) (a3 : 0 ≤ env 3) (h0 : e98.den env = true) (h1 : e99.den env = false) : False := by
  simp only [e98, e99, den_iff, BE.P, IE.den, Bool.not_true, Bool.not_false, Int.ofNat_eq_natCast, den_and, den_add, den_sub, and_low, and_31, and_i31, wrap_u32, wrap_u64, wrap_i32, wrap_i64, wrap_i8, wrap_i16, vA a1 a3, vB a2 a3, v8 a1 a3, v16 a1 a3, ne_eq, not_true_eq_false, not_false_eq_true] at h0 h1 <;> omega
theorem o170 (a0 : 0 ≤ env 0) (b0 : env 0 ≤ 255) (a1 : 0 ≤ env 1) (a2 : 0 ≤ env 2) (a3 : 0 ≤ env 3) (h0 : e98.den env = false) : False := by
  simp only [e98, den_iff, BE.P, IE.den, Bool.not_true, Bool.not_false, Int.ofNat_eq_natCast, den_and, den_add, den_sub, and_low, and_31, and_i31, wrap_u32, wrap_u64, wrap_i32, wrap_i64, wrap_i8, wrap_i16, vA a1 a3, vB a2 a3, v8 a1 a3, v16 a1 a3, ne_eq, not_true_eq_false, not_false_eq_true] at h0 <;> omega
theorem o171 (a0 : 0 ≤ env 0) (b0 : env 0 ≤ 255) (a1 : 0 ≤ env 1) (a2 : 0 ≤ env 2) (a3 : 0 ≤ env 3) (h0 : e104.den env = true) (h1 : e105.den env = false) : False := by
  simp only [e104, e105, den_iff, BE.P, IE.den, Bool.not_true, Bool.not_false, Int.ofNat_eq_natCast, den_and, den_add, den_sub, and_low, and_31, and_i31, wrap_u32, wrap_u64, wrap_i32, wrap_i64, wrap_i8, wrap_i16, vA a1 a3, vB a2 a3, v8 a1 a3, v16 a1 a3, ne_eq, not_true_eq_false, not_false_eq_true] at h0 h1 <;> omega
theorem o172 (a0 : 0 ≤ env 0) (b0 : env 0 ≤ 255) (a1 : 0 ≤ env 1) (a2 : 0 ≤ env 2) (a3 : 0 ≤ env 3) (h0 : e104.den env = false) : False := by
  simp only [e104, den_iff, BE.P, IE.den, Bool.not_true, Bool.not_false, Int.ofNat_eq_natCast, den_and, den_add, den_sub, and_low, and_31, and_i31, wrap_u32, wrap_u64, wrap_i32, wrap_i64, wrap_i8, wrap_i16, vA a1 a3, vB a2 a3, v8 a1 a3, v16 a1 a3, ne_eq, not_true_eq_false, not_false_eq_true] at h0 <;> omega
theorem o173 (a0 : 0 ≤ env 0) (b0 : env 0 ≤ 255) (a1 : 0 ≤ env 1) (a2 : 0 ≤ env 2) (a3 : 0 ≤ env 3) (h0 : e107.den env = true) (h1 : e108.den env = false) : False := by
  simp only [e107, e108, den_iff, BE.P, IE.den, Bool.not_true, Bool.not_false, Int.ofNat_eq_natCast, den_and, den_add, den_sub, and_low, and_31, and_i31, wrap_u32, wrap_u64, wrap_i32, wrap_i64, wrap_i8, wrap_i16, vA a1 a3, vB a2 a3, v8 a1 a3, v16 a1 a3, ne_eq, not_true_eq_false, not_false_eq_true] at h0 h1 <;> omega
theorem o174 (a0 : 0 ≤ env 0) (b0 : env 0 ≤ 255) (a1 : 0 ≤ env 1) (a2 : 0 ≤ env 2) (a3 : 0 ≤ env 3) (h0 : e107.den env = false) : False := by
  simp only [e107, den_iff, BE.P, IE.den, Bool.not_true, Bool.not_false, Int.ofNat_eq_natCast, den_and, den_add, den_sub, and_low, and_31, and_i31, wrap_u32, wrap_u64, wrap_i32, wrap_i64, wrap_i8, wrap_i16, vA a1 a3, vB a2 a3, v8 a1 a3, v16 a1 a3, ne_eq, not_true_eq_false, not_false_eq_true] at h0 <;> omega
theorem o175 (a0 : 0 ≤ env 0) (b0 : env 0 ≤ 255) (a1 : 0 ≤ env 1) (a2 : 0 ≤ env 2) (a3 : 0 ≤ env 3) (h0 : e110.den env = false) : False := by
  simp only [e110, den_iff, BE.P, IE.den, Bool.not_true, Bool.not_false, Int.ofNat_eq_natCast, den_and, den_add, den_sub, and_low, and_31, and_i31, wrap_u32, wrap_u64, wrap_i32, wrap_i64, wrap_i8, wrap_i16, vA a1 a3, vB a2 a3, v8 a1 a3, v16 a1 a3, ne_eq, not_true_eq_false, not_false_eq_true] at h0 <;> omega
theorem o176 (a0 : 0 ≤ env 0) (b0 : env 0 ≤ 255) (a1 : 0 ≤ env 1) (a2 : 0 ≤ env 2) (a3 : 0 ≤ env 3) (h0 : e113.den env = true) (h1 : e114.den env = false) : False := by
  simp only [e113, e114, den_iff, BE.P, IE.den, Bool.not_true, Bool.not_false, Int.ofNat_eq_natCast, den_and, den_add, den_sub, and_low, and_31, and_i31, wrap_u32, wrap_u64, wrap_i32, wrap_i64, wrap_i8, wrap_i16, vA a1 a3, vB a2 a3, v8 a1 a3, v16 a1 a3, ne_eq, not_true_eq_false, not_false_eq_true] at h0 h1 <;> omega
theorem o177 (a0 : 0 ≤ env 0) (b0 : env 0 ≤ 255) (a1 : 0 ≤ env 1) (a2 : 0 ≤ env 2) (a3 : 0 ≤ env 3) (h0 : e113.den env = false) : False := by
  simp only [e113, den_iff, BE.P, IE.den, Bool.not_true, Bool.not_false, Int.ofNat_eq_natCast, den_and, den_add, den_sub, and_low, and_31, and_i31, wrap_u32, wrap_u64, wrap_i32, wrap_i64, wrap_i8, wrap_i16, vA a1 a3, vB a2 a3, v8 a1 a3, v16 a1 a3, ne_eq, not_true_eq_false, not_false_eq_true] at h0 <;> omega
theorem o178 (a0 : 0 ≤ env 0) (b0 : env 0 ≤ 255) (a1 : 0 ≤ env 1) (a2 : 0 ≤ env 2) (a3 : 0 ≤ env 3) (h0 : e0.den env = false) (h1 : e3.den env = false) (h2 : e6.den env = false) (h3 : e9.den env = false) (h4 : e12.den env = false) (h5 : e15.den env = false) (h6 : e18.den env = false) (h7 : e21.den env = false) (h8 : e24.den env = false) (h9 : e27.den env = false) (h10 : e30.den env = false) (h11 : e33.den env = false) (h12 : e36.den env = false) (h13 : e39.den env = false) (h14 : e42.den env = false) (h15 : e44.den env = false) (h16 : e46.den env = false) (h17 : e48.den env = false) (h18 : e65.den env = false) (h19 : e69.den env = false) (h20 : e73.den env = false) (h21 : e77.den env = false) (h22 : e79.den env = false) (h23 : e81.den env = false) (h24 : e83.den env = false) (h25 : e87.den env = false) (h26 : e89.den env = false) (h27 : e91.den env = false) (h28 : e97.den env = false) (h29 : e103.den env = false) (h30 : e106.den env = false) (h31 : e109.den env = false) (h32 : e112.den env = false) : False := by
  have e : (wrapF .i64 (env 0)).tmod ((33 : Nat) : Int) = env 0 % 33 := by
    rw [wrap_i64, Int.tmod_eq_emod_of_nonneg (by omega)]; omega
  simp only [e0, e3, e6, e9, e12, e15, e18, e21, e24, e27, e30, e33, e36, e39, e42, e44, e46, e48, e65, e69, e73, e77, e79, e81, e83, e87, e89, e91, e97, e103, e106, e109, e112, den_iff, BE.P, IE.den, den_tmod, Int.ofNat_eq_natCast, e] at h0 h1 h2 h3 h4 h5 h6 h7 h8 h9 h10 h11 h12 h13 h14 h15 h16 h17 h18 h19 h20 h21 h22 h23 h24 h25 h26 h27 h28 h29 h30 h31 h32
  omega
set_option maxRecDepth 100000 in
theorem holds (a0 : 0 ≤ env 0) (b0 : env 0 ≤ 255) (a1 : 0 ≤ env 1) (b1 : env 1 ≤ 18446744073709551615) (a2 : 0 ≤ env 2) (b2 : env 2 ≤ 18446744073709551615) (a3 : 0 ≤ env 3) (b3 : env 3 ≤ 18446744073709551615) : dt.holds env :=
  holds_fork
   (fun h0 => holds_fork
    (fun h1 => holds_fork
     (fun h2 => holds_true)
     (fun h2 => holds_out (o0 a0 b0 a1 a2 a3 h1 h2)))
    (fun h1 => holds_fork
     (fun h2 => holds_out (o1 a0 b0 a1 a2 a3 h1 h2))
     (fun h2 => holds_true)))
   (fun h0 => holds_fork
    (fun h1 => holds_fork
     (fun h2 => holds_fork
      (fun h3 => holds_true)
      (fun h3 => holds_out (o2 a0 b0 a1 a2 a3 h2 h3)))
     (fun h2 => holds_fork
      (fun h3 => holds_out (o3 a0 b0 a1 a2 a3 h2 h3))
      (fun h3 => holds_true)))
    (fun h1 => holds_fork
     (fun h2 => holds_fork
      (fun h3 => holds_fork
       (fun h4 => holds_true)
       (fun h4 => holds_out (o4 a0 b0 a1 a2 a3 h3 h4)))
      (fun h3 => holds_fork
       (fun h4 => holds_out (o5 a0 b0 a1 a2 a3 h3 h4))
       (fun h4 => holds_true)))
     (fun h2 => holds_fork
      (fun h3 => holds_fork
       (fun h4 => holds_fork
        (fun h5 => holds_true)
        (fun h5 => holds_out (o6 a0 b0 a1 a2 a3 h4 h5)))
       (fun h4 => holds_fork
        (fun h5 => holds_out (o7 a0 b0 a1 a2 a3 h4 h5))
        (fun h5 => holds_true)))
      (fun h3 => holds_fork
       (fun h4 => holds_fork
        (fun h5 => holds_fork
         (fun h6 => holds_true)
         (fun h6 => holds_out (o8 a0 b0 a1 a2 a3 h5 h6)))
        (fun h5 => holds_fork
         (fun h6 => holds_out (o9 a0 b0 a1 a2 a3 h5 h6))
         (fun h6 => holds_true)))
       (fun h4 => holds_fork
        (fun h5 => holds_fork
         (fun h6 => holds_fork
          (fun h7 => holds_true)
          (fun h7 => holds_out (o10 a0 b0 a1 a2 a3 h6 h7)))
         (fun h6 => holds_fork
          (fun h7 => holds_out (o11 a0 b0 a1 a2 a3 h6 h7))
          (fun h7 => holds_true)))
        (fun h5 => holds_fork
         (fun h6 => holds_fork
          (fun h7 => holds_fork
           (fun h8 => holds_true)
           (fun h8 => holds_out (o12 a0 b0 a1 a2 a3 h7 h8)))
          (fun h7 => holds_fork
           (fun h8 => holds_out (o13 a0 b0 a1 a2 a3 h7 h8))
           (fun h8 => holds_true)))
         (fun h6 => holds_fork
          (fun h7 => holds_fork
           (fun h8 => holds_fork
            (fun h9 => holds_true)
            (fun h9 => holds_out (o14 a0 b0 a1 a2 a3 h8 h9)))
           (fun h8 => holds_fork
            (fun h9 => holds_out (o15 a0 b0 a1 a2 a3 h8 h9))
            (fun h9 => holds_true)))
          (fun h7 => holds_fork
           (fun h8 => holds_fork
            (fun h9 => holds_fork
             (fun h10 => holds_true)
             (fun h10 => holds_out (o16 a0 b0 a1 a2 a3 h9 h10)))
            (fun h9 => holds_fork
             (fun h10 => holds_out (o17 a0 b0 a1 a2 a3 h9 h10))
             (fun h10 => holds_true)))
           (fun h8 => holds_fork
            (fun h9 => holds_fork
             (fun h10 => holds_fork
              (fun h11 => holds_true)
              (fun h11 => holds_out (o18 a0 b0 a1 a2 a3 h10 h11)))
             (fun h10 => holds_fork
              (fun h11 => holds_out (o19 a0 b0 a1 a2 a3 h10 h11))
              (fun h11 => holds_true)))
            (fun h9 => holds_fork
             (fun h10 => holds_fork
              (fun h11 => holds_fork
               (fun h12 => holds_true)
               (fun h12 => holds_out (o20 a0 b0 a1 a2 a3 h11 h12)))
              (fun h11 => holds_fork
               (fun h12 => holds_out (o21 a0 b0 a1 a2 a3 h11 h12))
               (fun h12 => holds_true)))
             (fun h10 => holds_fork
              (fun h11 => holds_fork
               (fun h12 => holds_fork
                (fun h13 => holds_true)
                (fun h13 => holds_out (o22 a0 b0 a1 a2 a3 h12 h13)))
               (fun h12 => holds_out (o23 a0 b0 a1 a2 a3 h12)))
              (fun h11 => holds_fork
               (fun h12 => holds_fork
                (fun h13 => holds_fork
                 (fun h14 => holds_true)
                 (fun h14 => holds_out (o24 a0 b0 a1 a2 a3 h13 h14)))
                (fun h13 => holds_out (o25 a0 b0 a1 a2 a3 h13)))
               (fun h12 => holds_fork
                (fun h13 => holds_fork
                 (fun h14 => holds_fork
                  (fun h15 => holds_true)
                  (fun h15 => holds_out (o26 a0 b0 a1 a2 a3 h14 h15)))
                 (fun h14 => holds_out (o27 a0 b0 a1 a2 a3 h14)))
                (fun h13 => holds_fork
                 (fun h14 => holds_fork
                  (fun h15 => holds_leaf (t28 a0 b0 a1 a2 a3))
                  (fun h15 => holds_out (o29 a0 b0 a1 a2 a3 h15)))
                 (fun h14 => holds_fork
                  (fun h15 => holds_fork
                   (fun h16 => holds_leaf (t30 a0 b0 a1 a2 a3))
                   (fun h16 => holds_out (o31 a0 b0 a1 a2 a3 h16)))
                  (fun h15 => holds_fork
                   (fun h16 => holds_fork
                    (fun h17 => holds_leaf (t32 a0 b0 a1 a2 a3))
                    (fun h17 => holds_out (o33 a0 b0 a1 a2 a3 h17)))
                   (fun h16 => holds_fork
                    (fun h17 => holds_fork
                     (fun h18 => holds_fork
                      (fun h19 => holds_fork
                       (fun h20 => holds_fork
                        (fun h21 => holds_true)
                        (fun h21 => holds_fork
                         (fun h22 => holds_true)
                         (fun h22 => holds_fork
                          (fun h23 => holds_out (o34 a0 b0 a1 a2 a3 h18 h19 h20 h21 h22 h23))
                          (fun h23 => holds_out (o35 a0 b0 a1 a2 a3 h18 h19 h20 h21 h22 h23)))))
                       (fun h20 => holds_fork
                        (fun h21 => holds_true)
                        (fun h21 => holds_fork
                         (fun h22 => holds_out (o36 a0 b0 a1 a2 a3 h18 h19 h20 h21 h22))
                         (fun h22 => holds_fork
                          (fun h23 => holds_out (o37 a0 b0 a1 a2 a3 h18 h19 h20 h21 h22 h23))
                          (fun h23 => holds_out (o38 a0 b0 a1 a2 a3 h18 h19 h20 h21 h22 h23))))))
                      (fun h19 => holds_fork
                       (fun h20 => holds_fork
                        (fun h21 => holds_fork
                         (fun h22 => holds_true)
                         (fun h22 => holds_fork
                          (fun h23 => holds_true)
                          (fun h23 => holds_fork
                           (fun h24 => holds_out (o39 a0 b0 a1 a2 a3 h18 h19 h20 h21 h22 h23 h24))
                           (fun h24 => holds_out (o40 a0 b0 a1 a2 a3 h18 h19 h20 h21 h22 h23 h24)))))
                        (fun h21 => holds_fork
                         (fun h22 => holds_true)
                         (fun h22 => holds_fork
                          (fun h23 => holds_out (o41 a0 b0 a1 a2 a3 h18 h19 h20 h21 h22 h23))
                          (fun h23 => holds_fork
                           (fun h24 => holds_out (o42 a0 b0 a1 a2 a3 h18 h19 h20 h21 h22 h23 h24))
                           (fun h24 => holds_out (o43 a0 b0 a1 a2 a3 h18 h19 h20 h21 h22 h23 h24))))))
                       (fun h20 => holds_fork
                        (fun h21 => holds_fork
                         (fun h22 => holds_fork
                          (fun h23 => holds_out (o44 a0 b0 a1 a2 a3 h18 h19 h20 h21 h22 h23))
                          (fun h23 => holds_out (o45 a0 b0 a1 a2 a3 h18 h19 h20 h21 h22 h23)))
                         (fun h22 => holds_fork
                          (fun h23 => holds_fork
                           (fun h24 => holds_out (o46 a0 b0 a1 a2 a3 h18 h19 h20 h21 h22 h23 h24))
                           (fun h24 => holds_out (o47 a0 b0 a1 a2 a3 h18 h19 h20 h21 h22 h23 h24)))
                          (fun h23 => holds_fork
                           (fun h24 => holds_leaf (t48 a0 b0 a1 a2 a3))
                           (fun h24 => holds_out (o49 a0 b0 a1 a2 a3 h18 h19 h20 h21 h22 h23 h24)))))
                        (fun h21 => holds_fork
                         (fun h22 => holds_fork
                          (fun h23 => holds_out (o50 a0 b0 a1 a2 a3 h18 h19 h20 h21 h22 h23))
                          (fun h23 => holds_out (o51 a0 b0 a1 a2 a3 h18 h19 h20 h21 h22 h23)))
                         (fun h22 => holds_fork
                          (fun h23 => holds_out (o52 a0 b0 a1 a2 a3 h18 h19 h20 h21 h22 h23))
                          (fun h23 => holds_fork
                           (fun h24 => holds_leaf (t53 a0 b0 a1 a2 a3))
                           (fun h24 => holds_out (o54 a0 b0 a1 a2 a3 h18 h19 h20 h21 h22 h23 h24))))))))
                     (fun h18 => holds_fork
                      (fun h19 => holds_fork
                       (fun h20 => holds_fork
                        (fun h21 => holds_true)
                        (fun h21 => holds_fork
                         (fun h22 => holds_true)
                         (fun h22 => holds_fork
                          (fun h23 => holds_out (o55 a0 b0 a1 a2 a3 h18 h19 h20 h21 h22 h23))
                          (fun h23 => holds_out (o56 a0 b0 a1 a2 a3 h18 h19 h20 h21 h22 h23)))))
                       (fun h20 => holds_fork
                        (fun h21 => holds_true)
                        (fun h21 => holds_fork
                         (fun h22 => holds_out (o57 a0 b0 a1 a2 a3 h18 h19 h20 h21 h22))
                         (fun h22 => holds_fork
                          (fun h23 => holds_out (o58 a0 b0 a1 a2 a3 h18 h19 h20 h21 h22 h23))
                          (fun h23 => holds_out (o59 a0 b0 a1 a2 a3 h18 h19 h20 h21 h22 h23))))))
                      (fun h19 => holds_fork
                       (fun h20 => holds_out (o60 a0 b0 a1 a2 a3 h18 h19 h20))
                       (fun h20 => holds_fork
                        (fun h21 => holds_fork
                         (fun h22 => holds_fork
                          (fun h23 => holds_out (o61 a0 b0 a1 a2 a3 h18 h19 h20 h21 h22 h23))
                          (fun h23 => holds_out (o62 a0 b0 a1 a2 a3 h18 h19 h20 h21 h22 h23)))
                         (fun h22 => holds_fork
                          (fun h23 => holds_fork
                           (fun h24 => holds_out (o63 a0 b0 a1 a2 a3 h18 h19 h20 h21 h22 h23 h24))
                           (fun h24 => holds_out (o64 a0 b0 a1 a2 a3 h18 h19 h20 h21 h22 h23 h24)))
                          (fun h23 => holds_fork
                           (fun h24 => holds_leaf (t65 a0 b0 a1 a2 a3))
                           (fun h24 => holds_out (o66 a0 b0 a1 a2 a3 h18 h19 h20 h21 h22 h23 h24)))))
                        (fun h21 => holds_fork
                         (fun h22 => holds_fork
                          (fun h23 => holds_out (o67 a0 b0 a1 a2 a3 h18 h19 h20 h21 h22 h23))
                          (fun h23 => holds_out (o68 a0 b0 a1 a2 a3 h18 h19 h20 h21 h22 h23)))
                         (fun h22 => holds_fork
                          (fun h23 => holds_out (o69 a0 b0 a1 a2 a3 h18 h19 h20 h21 h22 h23))
                          (fun h23 => holds_fork
                           (fun h24 => holds_leaf (t70 a0 b0 a1 a2 a3))
                           (fun h24 => holds_out (o71 a0 b0 a1 a2 a3 h18 h19 h20 h21 h22 h23 h24)))))))))
                    (fun h17 => holds_fork
                     (fun h18 => holds_fork
                      (fun h19 => holds_fork
                       (fun h20 => holds_fork
                        (fun h21 => holds_fork
                         (fun h22 => holds_true)
                         (fun h22 => holds_fork
                          (fun h23 => holds_out (o72 a0 b0 a1 a2 a3 h19 h20 h21 h22 h23))
                          (fun h23 => holds_out (o73 a0 b0 a1 a2 a3 h19 h20 h21 h22 h23))))
                        (fun h21 => holds_fork
                         (fun h22 => holds_true)
                         (fun h22 => holds_fork
                          (fun h23 => holds_out (o74 a0 b0 a1 a2 a3 h19 h20 h21 h22 h23))
                          (fun h23 => holds_out (o75 a0 b0 a1 a2 a3 h19 h20 h21 h22 h23)))))
                       (fun h20 => holds_fork
                        (fun h21 => holds_fork
                         (fun h22 => holds_fork
                          (fun h23 => holds_out (o76 a0 b0 a1 a2 a3 h19 h20 h21 h22 h23))
                          (fun h23 => holds_out (o77 a0 b0 a1 a2 a3 h19 h20 h21 h22 h23)))
                         (fun h22 => holds_fork
                          (fun h23 => holds_leaf (t78 a0 b0 a1 a2 a3))
                          (fun h23 => holds_out (o79 a0 b0 a1 a2 a3 h19 h20 h21 h22 h23))))
                        (fun h21 => holds_fork
                         (fun h22 => holds_fork
                          (fun h23 => holds_out (o80 a0 b0 a1 a2 a3 h19 h20 h21 h22 h23))
                          (fun h23 => holds_out (o81 a0 b0 a1 a2 a3 h19 h20 h21 h22 h23)))
                         (fun h22 => holds_fork
                          (fun h23 => holds_leaf (t82 a0 b0 a1 a2 a3))
                          (fun h23 => holds_out (o83 a0 b0 a1 a2 a3 h19 h20 h21 h22 h23))))))
                      (fun h19 => holds_fork
                       (fun h20 => holds_fork
                        (fun h21 => holds_fork
                         (fun h22 => holds_true)
                         (fun h22 => holds_fork
                          (fun h23 => holds_out (o84 a0 b0 a1 a2 a3 h19 h20 h21 h22 h23))
                          (fun h23 => holds_out (o85 a0 b0 a1 a2 a3 h19 h20 h21 h22 h23))))
                        (fun h21 => holds_fork
                         (fun h22 => holds_true)
                         (fun h22 => holds_fork
                          (fun h23 => holds_out (o86 a0 b0 a1 a2 a3 h19 h20 h21 h22 h23))
                          (fun h23 => holds_out (o87 a0 b0 a1 a2 a3 h19 h20 h21 h22 h23)))))
                       (fun h20 => holds_fork
                        (fun h21 => holds_fork
                         (fun h22 => holds_fork
                          (fun h23 => holds_out (o88 a0 b0 a1 a2 a3 h19 h20 h21 h22 h23))
                          (fun h23 => holds_out (o89 a0 b0 a1 a2 a3 h19 h20 h21 h22 h23)))
                         (fun h22 => holds_fork
                          (fun h23 => holds_leaf (t90 a0 b0 a1 a2 a3))
                          (fun h23 => holds_out (o91 a0 b0 a1 a2 a3 h19 h20 h21 h22 h23))))
                        (fun h21 => holds_fork
                         (fun h22 => holds_fork
                          (fun h23 => holds_out (o92 a0 b0 a1 a2 a3 h19 h20 h21 h22 h23))
                          (fun h23 => holds_out (o93 a0 b0 a1 a2 a3 h19 h20 h21 h22 h23)))
                         (fun h22 => holds_fork
                          (fun h23 => holds_leaf (t94 a0 b0 a1 a2 a3))
                          (fun h23 => holds_out (o95 a0 b0 a1 a2 a3 h19 h20 h21 h22 h23)))))))
                     (fun h18 => holds_fork
                      (fun h19 => holds_fork
                       (fun h20 => holds_fork
                        (fun h21 => holds_fork
                         (fun h22 => holds_fork
                          (fun h23 => holds_true)
                          (fun h23 => holds_out (o96 a0 b0 a1 a2 a3 h20 h21 h22 h23)))
                         (fun h22 => holds_fork
                          (fun h23 => holds_true)
                          (fun h23 => holds_fork
                           (fun h24 => holds_out (o97 a0 b0 a1 a2 a3 h20 h21 h22 h23 h24))
                           (fun h24 => holds_fork
                            (fun h25 => holds_out (o98 a0 b0 a1 a2 a3 h20 h21 h22 h23 h24 h25))
                            (fun h25 => holds_out (o99 a0 b0 a1 a2 a3 h20 h21 h22 h23 h24 h25))))))
                        (fun h21 => holds_fork
                         (fun h22 => holds_fork
                          (fun h23 => holds_out (o100 a0 b0 a1 a2 a3 h20 h21 h22 h23))
                          (fun h23 => holds_true))
                         (fun h22 => holds_fork
                          (fun h23 => holds_out (o101 a0 b0 a1 a2 a3 h20 h21 h22 h23))
                          (fun h23 => holds_fork
                           (fun h24 => holds_out (o102 a0 b0 a1 a2 a3 h20 h21 h22 h23 h24))
                           (fun h24 => holds_fork
                            (fun h25 => holds_true)
                            (fun h25 => holds_out (o103 a0 b0 a1 a2 a3 h20 h21 h22 h23 h24 h25)))))))
                       (fun h20 => holds_fork
                        (fun h21 => holds_fork
                         (fun h22 => holds_fork
                          (fun h23 => holds_true)
                          (fun h23 => holds_out (o104 a0 b0 a1 a2 a3 h20 h21 h22 h23)))
                         (fun h22 => holds_fork
                          (fun h23 => holds_true)
                          (fun h23 => holds_fork
                           (fun h24 => holds_out (o105 a0 b0 a1 a2 a3 h20 h21 h22 h23 h24))
                           (fun h24 => holds_fork
                            (fun h25 => holds_out (o106 a0 b0 a1 a2 a3 h20 h21 h22 h23 h24 h25))
                            (fun h25 => holds_out (o107 a0 b0 a1 a2 a3 h20 h21 h22 h23 h24 h25))))))
                        (fun h21 => holds_fork
                         (fun h22 => holds_out (o108 a0 b0 a1 a2 a3 h20 h21 h22))
                         (fun h22 => holds_fork
                          (fun h23 => holds_fork
                           (fun h24 => holds_fork
                            (fun h25 => holds_out (o109 a0 b0 a1 a2 a3 h20 h21 h22 h23 h24 h25))
                            (fun h25 => holds_out (o110 a0 b0 a1 a2 a3 h20 h21 h22 h23 h24 h25)))
                           (fun h24 => holds_fork
                            (fun h25 => holds_true)
                            (fun h25 => holds_out (o111 a0 b0 a1 a2 a3 h20 h21 h22 h23 h24 h25))))
                          (fun h23 => holds_fork
                           (fun h24 => holds_fork
                            (fun h25 => holds_out (o112 a0 b0 a1 a2 a3 h20 h21 h22 h23 h24 h25))
                            (fun h25 => holds_out (o113 a0 b0 a1 a2 a3 h20 h21 h22 h23 h24 h25)))
                           (fun h24 => holds_fork
                            (fun h25 => holds_out (o114 a0 b0 a1 a2 a3 h20 h21 h22 h23 h24 h25))
                            (fun h25 => holds_fork
                             (fun h26 => holds_leaf (t115 a0 b0 a1 a2 a3))
                             (fun h26 => holds_out (o116 a0 b0 a1 a2 a3 h20 h21 h22 h23 h24 h25 h26)))))))))
                      (fun h19 => holds_fork
                       (fun h20 => holds_fork
                        (fun h21 => holds_fork
                         (fun h22 => holds_fork
                          (fun h23 => holds_fork
                           (fun h24 => holds_true)
                           (fun h24 => holds_fork
                            (fun h25 => holds_out (o117 a0 b0 a1 a2 a3 h21 h22 h23 h24 h25))
                            (fun h25 => holds_out (o118 a0 b0 a1 a2 a3 h21 h22 h23 h24 h25))))
                          (fun h23 => holds_fork
                           (fun h24 => holds_true)
                           (fun h24 => holds_fork
                            (fun h25 => holds_out (o119 a0 b0 a1 a2 a3 h21 h22 h23 h24 h25))
                            (fun h25 => holds_out (o120 a0 b0 a1 a2 a3 h21 h22 h23 h24 h25)))))
                         (fun h22 => holds_fork
                          (fun h23 => holds_fork
                           (fun h24 => holds_fork
                            (fun h25 => holds_out (o121 a0 b0 a1 a2 a3 h21 h22 h23 h24 h25))
                            (fun h25 => holds_out (o122 a0 b0 a1 a2 a3 h21 h22 h23 h24 h25)))
                           (fun h24 => holds_fork
                            (fun h25 => holds_leaf (t123 a0 b0 a1 a2 a3))
                            (fun h25 => holds_out (o124 a0 b0 a1 a2 a3 h21 h22 h23 h24 h25))))
                          (fun h23 => holds_fork
                           (fun h24 => holds_fork
                            (fun h25 => holds_out (o125 a0 b0 a1 a2 a3 h21 h22 h23 h24 h25))
                            (fun h25 => holds_out (o126 a0 b0 a1 a2 a3 h21 h22 h23 h24 h25)))
                           (fun h24 => holds_fork
                            (fun h25 => holds_leaf (t127 a0 b0 a1 a2 a3))
                            (fun h25 => holds_out (o128 a0 b0 a1 a2 a3 h21 h22 h23 h24 h25))))))
                        (fun h21 => holds_fork
                         (fun h22 => holds_fork
                          (fun h23 => holds_fork
                           (fun h24 => holds_true)
                           (fun h24 => holds_fork
                            (fun h25 => holds_out (o129 a0 b0 a1 a2 a3 h21 h22 h23 h24 h25))
                            (fun h25 => holds_out (o130 a0 b0 a1 a2 a3 h21 h22 h23 h24 h25))))
                          (fun h23 => holds_fork
                           (fun h24 => holds_true)
                           (fun h24 => holds_fork
                            (fun h25 => holds_out (o131 a0 b0 a1 a2 a3 h21 h22 h23 h24 h25))
                            (fun h25 => holds_out (o132 a0 b0 a1 a2 a3 h21 h22 h23 h24 h25)))))
                         (fun h22 => holds_fork
                          (fun h23 => holds_fork
                           (fun h24 => holds_fork
                            (fun h25 => holds_out (o133 a0 b0 a1 a2 a3 h21 h22 h23 h24 h25))
                            (fun h25 => holds_out (o134 a0 b0 a1 a2 a3 h21 h22 h23 h24 h25)))
                           (fun h24 => holds_fork
                            (fun h25 => holds_leaf (t135 a0 b0 a1 a2 a3))
                            (fun h25 => holds_out (o136 a0 b0 a1 a2 a3 h21 h22 h23 h24 h25))))
                          (fun h23 => holds_fork
                           (fun h24 => holds_fork
                            (fun h25 => holds_out (o137 a0 b0 a1 a2 a3 h21 h22 h23 h24 h25))
                            (fun h25 => holds_out (o138 a0 b0 a1 a2 a3 h21 h22 h23 h24 h25)))
                           (fun h24 => holds_fork
                            (fun h25 => holds_leaf (t139 a0 b0 a1 a2 a3))
                            (fun h25 => holds_out (o140 a0 b0 a1 a2 a3 h21 h22 h23 h24 h25)))))))
                       (fun h20 => holds_fork
                        (fun h21 => holds_fork
                         (fun h22 => holds_leaf (t141 a0 b0 a1 a2 a3))
                         (fun h22 => holds_out (o142 a0 b0 a1 a2 a3 h22)))
                        (fun h21 => holds_fork
                         (fun h22 => holds_fork
                          (fun h23 => holds_leaf (t143 a0 b0 a1 a2 a3))
                          (fun h23 => holds_out (o144 a0 b0 a1 a2 a3 h23)))
                         (fun h22 => holds_fork
                          (fun h23 => holds_fork
                           (fun h24 => holds_leaf (t145 a0 b0 a1 a2 a3))
                           (fun h24 => holds_out (o146 a0 b0 a1 a2 a3 h24)))
                          (fun h23 => holds_fork
                           (fun h24 => holds_fork
                            (fun h25 => holds_fork
                             (fun h26 => holds_fork
                              (fun h27 => holds_leaf (t147 a0 b0 a1 a2 a3))
                              (fun h27 => holds_out (o148 a0 b0 a1 a2 a3 h25 h26 h27)))
                             (fun h26 => holds_out (o149 a0 b0 a1 a2 a3 h25 h26)))
                            (fun h25 => holds_out (o150 a0 b0 a1 a2 a3 h25)))
                           (fun h24 => holds_fork
                            (fun h25 => holds_fork
                             (fun h26 => holds_fork
                              (fun h27 => holds_fork
                               (fun h28 => holds_leaf (t151 a0 b0 a1 a2 a3))
                               (fun h28 => holds_out (o152 a0 b0 a1 a2 a3 h26 h27 h28)))
                              (fun h27 => holds_out (o153 a0 b0 a1 a2 a3 h26 h27)))
                             (fun h26 => holds_out (o154 a0 b0 a1 a2 a3 h26)))
                            (fun h25 => holds_fork
                             (fun h26 => holds_fork
                              (fun h27 => holds_fork
                               (fun h28 => holds_fork
                                (fun h29 => holds_leaf (t155 a0 b0 a1 a2 a3))
                                (fun h29 => holds_out (o156 a0 b0 a1 a2 a3 h27 h28 h29)))
                               (fun h28 => holds_out (o157 a0 b0 a1 a2 a3 h27 h28)))
                              (fun h27 => holds_out (o158 a0 b0 a1 a2 a3 h27)))
                             (fun h26 => holds_fork
                              (fun h27 => holds_fork
                               (fun h28 => holds_fork
                                (fun h29 => holds_fork
                                 (fun h30 => holds_fork
                                  (fun h31 => holds_fork
                                   (fun h32 => holds_leaf (t159 a0 b0 a1 a2 a3))
                                   (fun h32 => holds_out (o160 a0 b0 a1 a2 a3 h28 h29 h30 h31 h32)))
                                  (fun h31 => holds_out (o161 a0 b0 a1 a2 a3 h28 h29 h30 h31)))
                                 (fun h30 => holds_out (o162 a0 b0 a1 a2 a3 h28 h29 h30)))
                                (fun h29 => holds_out (o163 a0 b0 a1 a2 a3 h28 h29)))
                               (fun h28 => holds_out (o164 a0 b0 a1 a2 a3 h28)))
                              (fun h27 => holds_fork
                               (fun h28 => holds_fork
                                (fun h29 => holds_fork
                                 (fun h30 => holds_fork
                                  (fun h31 => holds_fork
                                   (fun h32 => holds_fork
                                    (fun h33 => holds_leaf (t165 a0 b0 a1 a2 a3))
                                    (fun h33 => holds_out (o166 a0 b0 a1 a2 a3 h29 h30 h31 h32 h33)))
                                   (fun h32 => holds_out (o167 a0 b0 a1 a2 a3 h29 h30 h31 h32)))
                                  (fun h31 => holds_out (o168 a0 b0 a1 a2 a3 h29 h30 h31)))
                                 (fun h30 => holds_out (o169 a0 b0 a1 a2 a3 h29 h30)))
                                (fun h29 => holds_out (o170 a0 b0 a1 a2 a3 h29)))
                               (fun h28 => holds_fork
                                (fun h29 => holds_fork
                                 (fun h30 => holds_fork
                                  (fun h31 => holds_true)
                                  (fun h31 => holds_out (o171 a0 b0 a1 a2 a3 h30 h31)))
                                 (fun h30 => holds_out (o172 a0 b0 a1 a2 a3 h30)))
                                (fun h29 => holds_fork
                                 (fun h30 => holds_fork
                                  (fun h31 => holds_fork
                                   (fun h32 => holds_true)
                                   (fun h32 => holds_out (o173 a0 b0 a1 a2 a3 h31 h32)))
                                  (fun h31 => holds_out (o174 a0 b0 a1 a2 a3 h31)))
                                 (fun h30 => holds_fork
                                  (fun h31 => holds_fork
                                   (fun h32 => holds_fork
                                    (fun h33 => holds_true)
                                    (fun h33 => holds_true))
                                   (fun h32 => holds_out (o175 a0 b0 a1 a2 a3 h32)))
                                  (fun h31 => holds_fork
                                   (fun h32 => holds_fork
                                    (fun h33 => holds_fork
                                     (fun h34 => holds_true)
                                     (fun h34 => holds_out (o176 a0 b0 a1 a2 a3 h33 h34)))
                                    (fun h33 => holds_out (o177 a0 b0 a1 a2 a3 h33)))
                                   (fun h32 => holds_out (o178 a0 b0 a1 a2 a3 h0 h1 h2 h3 h4 h5 h6 h7 h8 h9 h10 h11 h12 h13 h14 h15 h16 h17 h18 h19 h20 h21 h22 h23 h24 h25 h26 h27 h28 h29 h30 h31 h32))))))))))))))))))))))))))))))))))
end
end Go.Vm.VNumLow
