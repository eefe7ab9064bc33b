/- The law NumOnes: what is to be shown of the numbers. -/
import Derived.Test.YtpbnbgjclalpeaaDoorVNumOnesB
import Derived.Test.YtpbnbgjclalpeaaDoorVmTree
set_option linter.unusedVariables false
set_option linter.unusedSimpArgs false
namespace Go.Vm.VNumOnes
open Go.Vm
section
variable {env : Nat → Int}
theorem shlN (k : IntKind) (x : Int) (m : Nat) (hm : m ≤ k.bits) : IOp.den .shl k x (m : Int) = x * ((2 ^ m : Nat) : Int) := by
  rw [shl_den, show min ((m : Int).toNat) k.bits = m by omega]
  norm_cast
theorem shrN (k : IntKind) (x : Int) (m : Nat) (hm : m ≤ k.bits) : IOp.den .shr k x (m : Int) = x / ((2 ^ m : Nat) : Int) := by
  rw [shr_den, show min ((m : Int).toNat) k.bits = m by omega, show ((2 : Int) ^ m) = ((2 ^ m : Nat) : Int) by norm_cast]
  exact Int.fdiv_eq_ediv_of_nonneg _ (Int.natCast_nonneg _)
theorem shl32 (k : IntKind) (hk : k.bits = 64) (x : Int) : IOp.den .shl k x ((32 : Nat) : Int) = x * 4294967296 := shlN k x 32 (by omega)
theorem shr32 (k : IntKind) (hk : k.bits = 64) (x : Int) : IOp.den .shr k x ((32 : Nat) : Int) = x / 4294967296 := shrN k x 32 (by omega)
theorem shl48 (k : IntKind) (hk : k.bits = 64) (x : Int) : IOp.den .shl k x ((48 : Nat) : Int) = x * 281474976710656 := shlN k x 48 (by omega)
theorem shr48 (k : IntKind) (hk : k.bits = 64) (x : Int) : IOp.den .shr k x ((48 : Nat) : Int) = x / 281474976710656 := shrN k x 48 (by omega)
theorem shl56 (k : IntKind) (hk : k.bits = 64) (x : Int) : IOp.den .shl k x ((56 : Nat) : Int) = x * 72057594037927936 := shlN k x 56 (by omega)
theorem shr56 (k : IntKind) (hk : k.bits = 64) (x : Int) : IOp.den .shr k x ((56 : Nat) : Int) = x / 72057594037927936 := shrN k x 56 (by omega)
theorem o0 (a1 : 0 ≤ env 1) (b1 : env 1 ≤ 18446744073709551615) (h0 : e0.den env = true) (h1 : e1.den env = true) (h2 : e3.den env = true) (h3 : e4.den env = false) : False := by
  simp only [e0, e1, e3, e4, den_iff, BE.P, IE.den, Bool.not_true, Bool.not_false, Int.ofNat_eq_natCast, shl32 .u64 rfl, shr32 .u64 rfl, shr32 .i64 rfl, shl48 .u64 rfl, shr48 .u64 rfl, shr48 .i64 rfl, shl56 .u64 rfl, shr56 .u64 rfl, shr56 .i64 rfl, wrap_u8, wrap_u16, wrap_u32, wrap_u64, wrap_i8, wrap_i16, wrap_i32, wrap_i64] at h0 h1 h2 h3
  omega
theorem o1 (a1 : 0 ≤ env 1) (b1 : env 1 ≤ 18446744073709551615) (h0 : e0.den env = true) (h1 : e1.den env = true) (h2 : e3.den env = false) (h3 : e4.den env = true) : False := by
  simp only [e0, e1, e3, e4, den_iff, BE.P, IE.den, Bool.not_true, Bool.not_false, Int.ofNat_eq_natCast, shl32 .u64 rfl, shr32 .u64 rfl, shr32 .i64 rfl, shl48 .u64 rfl, shr48 .u64 rfl, shr48 .i64 rfl, shl56 .u64 rfl, shr56 .u64 rfl, shr56 .i64 rfl, wrap_u8, wrap_u16, wrap_u32, wrap_u64, wrap_i8, wrap_i16, wrap_i32, wrap_i64] at h0 h1 h2 h3
  omega
theorem o2 (a1 : 0 ≤ env 1) (b1 : env 1 ≤ 18446744073709551615) (h0 : e0.den env = true) (h1 : e1.den env = true) (h2 : e14.den env = false) : False := by
  simp only [e0, e1, e14, den_iff, BE.P, IE.den, Bool.not_true, Bool.not_false, Int.ofNat_eq_natCast, shl32 .u64 rfl, shr32 .u64 rfl, shr32 .i64 rfl, shl48 .u64 rfl, shr48 .u64 rfl, shr48 .i64 rfl, shl56 .u64 rfl, shr56 .u64 rfl, shr56 .i64 rfl, wrap_u8, wrap_u16, wrap_u32, wrap_u64, wrap_i8, wrap_i16, wrap_i32, wrap_i64] at h0 h1 h2
  omega
theorem o3 (a1 : 0 ≤ env 1) (b1 : env 1 ≤ 18446744073709551615) (h0 : e0.den env = true) (h1 : e1.den env = true) (h2 : e16.den env = false) : False := by
  simp only [e0, e1, e16, den_iff, BE.P, IE.den, Bool.not_true, Bool.not_false, Int.ofNat_eq_natCast, shl32 .u64 rfl, shr32 .u64 rfl, shr32 .i64 rfl, shl48 .u64 rfl, shr48 .u64 rfl, shr48 .i64 rfl, shl56 .u64 rfl, shr56 .u64 rfl, shr56 .i64 rfl, wrap_u8, wrap_u16, wrap_u32, wrap_u64, wrap_i8, wrap_i16, wrap_i32, wrap_i64] at h0 h1 h2
  omega
theorem o4 (a1 : 0 ≤ env 1) (b1 : env 1 ≤ 18446744073709551615) (h0 : e0.den env = true) (h1 : e1.den env = true) (h2 : e14.den env = false) : False := by
  simp only [e0, e1, e14, den_iff, BE.P, IE.den, Bool.not_true, Bool.not_false, Int.ofNat_eq_natCast, shl32 .u64 rfl, shr32 .u64 rfl, shr32 .i64 rfl, shl48 .u64 rfl, shr48 .u64 rfl, shr48 .i64 rfl, shl56 .u64 rfl, shr56 .u64 rfl, shr56 .i64 rfl, wrap_u8, wrap_u16, wrap_u32, wrap_u64, wrap_i8, wrap_i16, wrap_i32, wrap_i64] at h0 h1 h2
  omega
theorem o5 (a1 : 0 ≤ env 1) (b1 : env 1 ≤ 18446744073709551615) (h0 : e0.den env = true) (h1 : e1.den env = true) (h2 : e19.den env = false) : False := by
  simp only [e0, e1, e19, den_iff, BE.P, IE.den, Bool.not_true, Bool.not_false, Int.ofNat_eq_natCast, shl32 .u64 rfl, shr32 .u64 rfl, shr32 .i64 rfl, shl48 .u64 rfl, shr48 .u64 rfl, shr48 .i64 rfl, shl56 .u64 rfl, shr56 .u64 rfl, shr56 .i64 rfl, wrap_u8, wrap_u16, wrap_u32, wrap_u64, wrap_i8, wrap_i16, wrap_i32, wrap_i64] at h0 h1 h2
  omega
theorem o6 (a1 : 0 ≤ env 1) (b1 : env 1 ≤ 18446744073709551615) (h0 : e0.den env = true) (h1 : e1.den env = true) (h2 : e21.den env = false) : False := by
  simp only [e0, e1, e21, den_iff, BE.P, IE.den, Bool.not_true, Bool.not_false, Int.ofNat_eq_natCast, shl32 .u64 rfl, shr32 .u64 rfl, shr32 .i64 rfl, shl48 .u64 rfl, shr48 .u64 rfl, shr48 .i64 rfl, shl56 .u64 rfl, shr56 .u64 rfl, shr56 .i64 rfl, wrap_u8, wrap_u16, wrap_u32, wrap_u64, wrap_i8, wrap_i16, wrap_i32, wrap_i64] at h0 h1 h2
  omega
theorem o7 (a1 : 0 ≤ env 1) (b1 : env 1 ≤ 18446744073709551615) (h0 : e0.den env = true) (h1 : e1.den env = true) (h2 : e23.den env = false) : False := by
  simp only [e0, e1, e23, den_iff, BE.P, IE.den, Bool.not_true, Bool.not_false, Int.ofNat_eq_natCast, shl32 .u64 rfl, shr32 .u64 rfl, shr32 .i64 rfl, shl48 .u64 rfl, shr48 .u64 rfl, shr48 .i64 rfl, shl56 .u64 rfl, shr56 .u64 rfl, shr56 .i64 rfl, wrap_u8, wrap_u16, wrap_u32, wrap_u64, wrap_i8, wrap_i16, wrap_i32, wrap_i64] at h0 h1 h2
  omega
theorem o8 (a1 : 0 ≤ env 1) (b1 : env 1 ≤ 18446744073709551615) (h0 : e0.den env = true) (h1 : e1.den env = true) (h2 : e25.den env = false) : False := by
  simp only [e0, e1, e25, den_iff, BE.P, IE.den, Bool.not_true, Bool.not_false, Int.ofNat_eq_natCast, shl32 .u64 rfl, shr32 .u64 rfl, shr32 .i64 rfl, shl48 .u64 rfl, shr48 .u64 rfl, shr48 .i64 rfl, shl56 .u64 rfl, shr56 .u64 rfl, shr56 .i64 rfl, wrap_u8, wrap_u16, wrap_u32, wrap_u64, wrap_i8, wrap_i16, wrap_i32, wrap_i64] at h0 h1 h2
  omega
theorem o9 (a1 : 0 ≤ env 1) (b1 : env 1 ≤ 18446744073709551615) (h0 : e0.den env = true) (h1 : e1.den env = true) (h2 : e27.den env = false) : False := by
  simp only [e0, e1, e27, den_iff, BE.P, IE.den, Bool.not_true, Bool.not_false, Int.ofNat_eq_natCast, shl32 .u64 rfl, shr32 .u64 rfl, shr32 .i64 rfl, shl48 .u64 rfl, shr48 .u64 rfl, shr48 .i64 rfl, shl56 .u64 rfl, shr56 .u64 rfl, shr56 .i64 rfl, wrap_u8, wrap_u16, wrap_u32, wrap_u64, wrap_i8, wrap_i16, wrap_i32, wrap_i64] at h0 h1 h2
  omega
theorem o10 (a1 : 0 ≤ env 1) (b1 : env 1 ≤ 18446744073709551615) (h0 : e2.den env = false) (h1 : e5.den env = false) (h2 : e7.den env = false) (h3 : e8.den env = false) (h4 : e9.den env = false) (h5 : e10.den env = false) (h6 : e11.den env = false) (h7 : e12.den env = false) (h8 : e13.den env = false) (h9 : e15.den env = false) (h10 : e17.den env = false) (h11 : e18.den env = false) (h12 : e20.den env = false) (h13 : e22.den env = false) (h14 : e24.den env = false) (h15 : e26.den env = false) (h16 : e28.den env = true) (h17 : e29.den env = true) : False := by
  simp only [e2, e5, e7, e8, e9, e10, e11, e12, e13, e15, e17, e18, e20, e22, e24, e26, e28, e29, den_iff, BE.P, IE.den, Bool.not_true, Bool.not_false, Int.ofNat_eq_natCast, shl32 .u64 rfl, shr32 .u64 rfl, shr32 .i64 rfl, shl48 .u64 rfl, shr48 .u64 rfl, shr48 .i64 rfl, shl56 .u64 rfl, shr56 .u64 rfl, shr56 .i64 rfl, wrap_u8, wrap_u16, wrap_u32, wrap_u64, wrap_i8, wrap_i16, wrap_i32, wrap_i64] at h0 h1 h2 h3 h4 h5 h6 h7 h8 h9 h10 h11 h12 h13 h14 h15 h16 h17
  omega
theorem o11 (a1 : 0 ≤ env 1) (b1 : env 1 ≤ 18446744073709551615) (h0 : e2.den env = false) (h1 : e5.den env = false) (h2 : e7.den env = false) (h3 : e8.den env = false) (h4 : e9.den env = false) (h5 : e10.den env = false) (h6 : e11.den env = false) (h7 : e12.den env = false) (h8 : e13.den env = false) (h9 : e15.den env = false) (h10 : e17.den env = false) (h11 : e18.den env = false) (h12 : e20.den env = false) (h13 : e22.den env = false) (h14 : e24.den env = false) (h15 : e26.den env = false) (h16 : e28.den env = true) (h17 : e29.den env = true) : False := by
  simp only [e2, e5, e7, e8, e9, e10, e11, e12, e13, e15, e17, e18, e20, e22, e24, e26, e28, e29, den_iff, BE.P, IE.den, Bool.not_true, Bool.not_false, Int.ofNat_eq_natCast, shl32 .u64 rfl, shr32 .u64 rfl, shr32 .i64 rfl, shl48 .u64 rfl, shr48 .u64 rfl, shr48 .i64 rfl, shl56 .u64 rfl, shr56 .u64 rfl, shr56 .i64 rfl, wrap_u8, wrap_u16, wrap_u32, wrap_u64, wrap_i8, wrap_i16, wrap_i32, wrap_i64] at h0 h1 h2 h3 h4 h5 h6 h7 h8 h9 h10 h11 h12 h13 h14 h15 h16 h17
  omega
theorem o12 (a1 : 0 ≤ env 1) (b1 : env 1 ≤ 18446744073709551615) (h0 : e2.den env = false) (h1 : e5.den env = false) (h2 : e7.den env = false) (h3 : e8.den env = false) (h4 : e9.den env = false) (h5 : e10.den env = false) (h6 : e11.den env = false) (h7 : e12.den env = false) (h8 : e13.den env = false) (h9 : e15.den env = false) (h10 : e17.den env = false) (h11 : e18.den env = false) (h12 : e20.den env = false) (h13 : e22.den env = false) (h14 : e24.den env = false) (h15 : e26.den env = false) (h16 : e28.den env = true) (h17 : e29.den env = false) (h18 : e31.den env = true) (h19 : e32.den env = true) : False := by
  simp only [e2, e5, e7, e8, e9, e10, e11, e12, e13, e15, e17, e18, e20, e22, e24, e26, e28, e29, e31, e32, den_iff, BE.P, IE.den, Bool.not_true, Bool.not_false, Int.ofNat_eq_natCast, shl32 .u64 rfl, shr32 .u64 rfl, shr32 .i64 rfl, shl48 .u64 rfl, shr48 .u64 rfl, shr48 .i64 rfl, shl56 .u64 rfl, shr56 .u64 rfl, shr56 .i64 rfl, wrap_u8, wrap_u16, wrap_u32, wrap_u64, wrap_i8, wrap_i16, wrap_i32, wrap_i64] at h0 h1 h2 h3 h4 h5 h6 h7 h8 h9 h10 h11 h12 h13 h14 h15 h16 h17 h18 h19
  omega
theorem o13 (a1 : 0 ≤ env 1) (b1 : env 1 ≤ 18446744073709551615) (h0 : e2.den env = false) (h1 : e5.den env = false) (h2 : e7.den env = false) (h3 : e8.den env = false) (h4 : e9.den env = false) (h5 : e10.den env = false) (h6 : e11.den env = false) (h7 : e12.den env = false) (h8 : e13.den env = false) (h9 : e15.den env = false) (h10 : e17.den env = false) (h11 : e18.den env = false) (h12 : e20.den env = false) (h13 : e22.den env = false) (h14 : e24.den env = false) (h15 : e26.den env = false) (h16 : e28.den env = true) (h17 : e29.den env = false) (h18 : e31.den env = true) (h19 : e32.den env = true) : False := by
  simp only [e2, e5, e7, e8, e9, e10, e11, e12, e13, e15, e17, e18, e20, e22, e24, e26, e28, e29, e31, e32, den_iff, BE.P, IE.den, Bool.not_true, Bool.not_false, Int.ofNat_eq_natCast, shl32 .u64 rfl, shr32 .u64 rfl, shr32 .i64 rfl, shl48 .u64 rfl, shr48 .u64 rfl, shr48 .i64 rfl, shl56 .u64 rfl, shr56 .u64 rfl, shr56 .i64 rfl, wrap_u8, wrap_u16, wrap_u32, wrap_u64, wrap_i8, wrap_i16, wrap_i32, wrap_i64] at h0 h1 h2 h3 h4 h5 h6 h7 h8 h9 h10 h11 h12 h13 h14 h15 h16 h17 h18 h19
  omega
theorem o14 (a1 : 0 ≤ env 1) (b1 : env 1 ≤ 18446744073709551615) (h0 : e2.den env = false) (h1 : e5.den env = false) (h2 : e7.den env = false) (h3 : e8.den env = false) (h4 : e9.den env = false) (h5 : e10.den env = false) (h6 : e11.den env = false) (h7 : e12.den env = false) (h8 : e13.den env = false) (h9 : e15.den env = false) (h10 : e17.den env = false) (h11 : e18.den env = false) (h12 : e20.den env = false) (h13 : e22.den env = false) (h14 : e24.den env = false) (h15 : e26.den env = false) (h16 : e28.den env = true) (h17 : e29.den env = false) (h18 : e31.den env = true) (h19 : e32.den env = false) (h20 : e34.den env = true) (h21 : e35.den env = true) : False := by
  simp only [e2, e5, e7, e8, e9, e10, e11, e12, e13, e15, e17, e18, e20, e22, e24, e26, e28, e29, e31, e32, e34, e35, den_iff, BE.P, IE.den, Bool.not_true, Bool.not_false, Int.ofNat_eq_natCast, shl32 .u64 rfl, shr32 .u64 rfl, shr32 .i64 rfl, shl48 .u64 rfl, shr48 .u64 rfl, shr48 .i64 rfl, shl56 .u64 rfl, shr56 .u64 rfl, shr56 .i64 rfl, wrap_u8, wrap_u16, wrap_u32, wrap_u64, wrap_i8, wrap_i16, wrap_i32, wrap_i64] at h0 h1 h2 h3 h4 h5 h6 h7 h8 h9 h10 h11 h12 h13 h14 h15 h16 h17 h18 h19 h20 h21
  omega
theorem o15 (a1 : 0 ≤ env 1) (b1 : env 1 ≤ 18446744073709551615) (h0 : e2.den env = false) (h1 : e5.den env = false) (h2 : e7.den env = false) (h3 : e8.den env = false) (h4 : e9.den env = false) (h5 : e10.den env = false) (h6 : e11.den env = false) (h7 : e12.den env = false) (h8 : e13.den env = false) (h9 : e15.den env = false) (h10 : e17.den env = false) (h11 : e18.den env = false) (h12 : e20.den env = false) (h13 : e22.den env = false) (h14 : e24.den env = false) (h15 : e26.den env = false) (h16 : e28.den env = true) (h17 : e29.den env = false) (h18 : e31.den env = true) (h19 : e32.den env = false) (h20 : e34.den env = true) (h21 : e35.den env = true) : False := by
  simp only [e2, e5, e7, e8, e9, e10, e11, e12, e13, e15, e17, e18, e20, e22, e24, e26, e28, e29, e31, e32, e34, e35, den_iff, BE.P, IE.den, Bool.not_true, Bool.not_false, Int.ofNat_eq_natCast, shl32 .u64 rfl, shr32 .u64 rfl, shr32 .i64 rfl, shl48 .u64 rfl, shr48 .u64 rfl, shr48 .i64 rfl, shl56 .u64 rfl, shr56 .u64 rfl, shr56 .i64 rfl, wrap_u8, wrap_u16, wrap_u32, wrap_u64, wrap_i8, wrap_i16, wrap_i32, wrap_i64] at h0 h1 h2 h3 h4 h5 h6 h7 h8 h9 h10 h11 h12 h13 h14 h15 h16 h17 h18 h19 h20 h21
  omega
theorem o16 (a1 : 0 ≤ env 1) (b1 : env 1 ≤ 18446744073709551615) (h0 : e2.den env = false) (h1 : e5.den env = false) (h2 : e7.den env = false) (h3 : e8.den env = false) (h4 : e9.den env = false) (h5 : e10.den env = false) (h6 : e11.den env = false) (h7 : e12.den env = false) (h8 : e13.den env = false) (h9 : e15.den env = false) (h10 : e17.den env = false) (h11 : e18.den env = false) (h12 : e20.den env = false) (h13 : e22.den env = false) (h14 : e24.den env = false) (h15 : e26.den env = false) (h16 : e28.den env = true) (h17 : e29.den env = false) (h18 : e31.den env = true) (h19 : e32.den env = false) (h20 : e34.den env = true) (h21 : e35.den env = false) (h22 : e36.den env = true) (h23 : e37.den env = true) : False := by
  simp only [e2, e5, e7, e8, e9, e10, e11, e12, e13, e15, e17, e18, e20, e22, e24, e26, e28, e29, e31, e32, e34, e35, e36, e37, den_iff, BE.P, IE.den, Bool.not_true, Bool.not_false, Int.ofNat_eq_natCast, shl32 .u64 rfl, shr32 .u64 rfl, shr32 .i64 rfl, shl48 .u64 rfl, shr48 .u64 rfl, shr48 .i64 rfl, shl56 .u64 rfl, shr56 .u64 rfl, shr56 .i64 rfl, wrap_u8, wrap_u16, wrap_u32, wrap_u64, wrap_i8, wrap_i16, wrap_i32, wrap_i64] at h0 h1 h2 h3 h4 h5 h6 h7 h8 h9 h10 h11 h12 h13 h14 h15 h16 h17 h18 h19 h20 h21 h22 h23
  omega
theorem o17 (a1 : 0 ≤ env 1) (b1 : env 1 ≤ 18446744073709551615) (h0 : e2.den env = false) (h1 : e5.den env = false) (h2 : e7.den env = false) (h3 : e8.den env = false) (h4 : e9.den env = false) (h5 : e10.den env = false) (h6 : e11.den env = false) (h7 : e12.den env = false) (h8 : e13.den env = false) (h9 : e15.den env = false) (h10 : e17.den env = false) (h11 : e18.den env = false) (h12 : e20.den env = false) (h13 : e22.den env = false) (h14 : e24.den env = false) (h15 : e26.den env = false) (h16 : e28.den env = true) (h17 : e29.den env = false) (h18 : e31.den env = true) (h19 : e32.den env = false) (h20 : e34.den env = true) (h21 : e35.den env = false) (h22 : e36.den env = true) (h23 : e37.den env = false) (h24 : e38.den env = true) (h25 : e39.den env = true) : False := by
  simp only [e2, e5, e7, e8, e9, e10, e11, e12, e13, e15, e17, e18, e20, e22, e24, e26, e28, e29, e31, e32, e34, e35, e36, e37, e38, e39, den_iff, BE.P, IE.den, Bool.not_true, Bool.not_false, Int.ofNat_eq_natCast, shl32 .u64 rfl, shr32 .u64 rfl, shr32 .i64 rfl, shl48 .u64 rfl, shr48 .u64 rfl, shr48 .i64 rfl, shl56 .u64 rfl, shr56 .u64 rfl, shr56 .i64 rfl, wrap_u8, wrap_u16, wrap_u32, wrap_u64, wrap_i8, wrap_i16, wrap_i32, wrap_i64] at h0 h1 h2 h3 h4 h5 h6 h7 h8 h9 h10 h11 h12 h13 h14 h15 h16 h17 h18 h19 h20 h21 h22 h23 h24 h25
  omega
theorem o18 (a1 : 0 ≤ env 1) (b1 : env 1 ≤ 18446744073709551615) (h0 : e2.den env = false) (h1 : e5.den env = false) (h2 : e7.den env = false) (h3 : e8.den env = false) (h4 : e9.den env = false) (h5 : e10.den env = false) (h6 : e11.den env = false) (h7 : e12.den env = false) (h8 : e13.den env = false) (h9 : e15.den env = false) (h10 : e17.den env = false) (h11 : e18.den env = false) (h12 : e20.den env = false) (h13 : e22.den env = false) (h14 : e24.den env = false) (h15 : e26.den env = false) (h16 : e28.den env = true) (h17 : e29.den env = false) (h18 : e31.den env = true) (h19 : e32.den env = false) (h20 : e34.den env = true) (h21 : e35.den env = false) (h22 : e36.den env = true) (h23 : e37.den env = false) (h24 : e38.den env = true) (h25 : e39.den env = false) (h26 : e40.den env = true) (h27 : e41.den env = true) : False := by
  simp only [e2, e5, e7, e8, e9, e10, e11, e12, e13, e15, e17, e18, e20, e22, e24, e26, e28, e29, e31, e32, e34, e35, e36, e37, e38, e39, e40, e41, den_iff, BE.P, IE.den, Bool.not_true, Bool.not_false, Int.ofNat_eq_natCast, shl32 .u64 rfl, shr32 .u64 rfl, shr32 .i64 rfl, shl48 .u64 rfl, shr48 .u64 rfl, shr48 .i64 rfl, shl56 .u64 rfl, shr56 .u64 rfl, shr56 .i64 rfl, wrap_u8, wrap_u16, wrap_u32, wrap_u64, wrap_i8, wrap_i16, wrap_i32, wrap_i64] at h0 h1 h2 h3 h4 h5 h6 h7 h8 h9 h10 h11 h12 h13 h14 h15 h16 h17 h18 h19 h20 h21 h22 h23 h24 h25 h26 h27
  omega
theorem o19 (a1 : 0 ≤ env 1) (b1 : env 1 ≤ 18446744073709551615) (h0 : e2.den env = false) (h1 : e5.den env = false) (h2 : e7.den env = false) (h3 : e8.den env = false) (h4 : e9.den env = false) (h5 : e10.den env = false) (h6 : e11.den env = false) (h7 : e12.den env = false) (h8 : e13.den env = false) (h9 : e15.den env = false) (h10 : e17.den env = false) (h11 : e18.den env = false) (h12 : e20.den env = false) (h13 : e22.den env = false) (h14 : e24.den env = false) (h15 : e26.den env = false) (h16 : e28.den env = true) (h17 : e29.den env = false) (h18 : e31.den env = true) (h19 : e32.den env = false) (h20 : e34.den env = true) (h21 : e35.den env = false) (h22 : e36.den env = true) (h23 : e37.den env = false) (h24 : e38.den env = true) (h25 : e39.den env = false) (h26 : e40.den env = true) (h27 : e41.den env = false) (h28 : e42.den env = true) (h29 : e43.den env = true) : False := by
  simp only [e2, e5, e7, e8, e9, e10, e11, e12, e13, e15, e17, e18, e20, e22, e24, e26, e28, e29, e31, e32, e34, e35, e36, e37, e38, e39, e40, e41, e42, e43, den_iff, BE.P, IE.den, Bool.not_true, Bool.not_false, Int.ofNat_eq_natCast, shl32 .u64 rfl, shr32 .u64 rfl, shr32 .i64 rfl, shl48 .u64 rfl, shr48 .u64 rfl, shr48 .i64 rfl, shl56 .u64 rfl, shr56 .u64 rfl, shr56 .i64 rfl, wrap_u8, wrap_u16, wrap_u32, wrap_u64, wrap_i8, wrap_i16, wrap_i32, wrap_i64] at h0 h1 h2 h3 h4 h5 h6 h7 h8 h9 h10 h11 h12 h13 h14 h15 h16 h17 h18 h19 h20 h21 h22 h23 h24 h25 h26 h27 h28 h29
  omega
theorem o20 (a1 : 0 ≤ env 1) (b1 : env 1 ≤ 18446744073709551615) (h0 : e2.den env = false) (h1 : e5.den env = false) (h2 : e7.den env = false) (h3 : e8.den env = false) (h4 : e9.den env = false) (h5 : e10.den env = false) (h6 : e11.den env = false) (h7 : e12.den env = false) (h8 : e13.den env = false) (h9 : e15.den env = false) (h10 : e17.den env = false) (h11 : e18.den env = false) (h12 : e20.den env = false) (h13 : e22.den env = false) (h14 : e24.den env = false) (h15 : e26.den env = false) (h16 : e28.den env = true) (h17 : e29.den env = false) (h18 : e31.den env = true) (h19 : e32.den env = false) (h20 : e34.den env = true) (h21 : e35.den env = false) (h22 : e36.den env = true) (h23 : e37.den env = false) (h24 : e38.den env = true) (h25 : e39.den env = false) (h26 : e40.den env = true) (h27 : e41.den env = false) (h28 : e42.den env = false) : False := by
  simp only [e2, e5, e7, e8, e9, e10, e11, e12, e13, e15, e17, e18, e20, e22, e24, e26, e28, e29, e31, e32, e34, e35, e36, e37, e38, e39, e40, e41, e42, den_iff, BE.P, IE.den, Bool.not_true, Bool.not_false, Int.ofNat_eq_natCast, shl32 .u64 rfl, shr32 .u64 rfl, shr32 .i64 rfl, shl48 .u64 rfl, shr48 .u64 rfl, shr48 .i64 rfl, shl56 .u64 rfl, shr56 .u64 rfl, shr56 .i64 rfl, wrap_u8, wrap_u16, wrap_u32, wrap_u64, wrap_i8, wrap_i16, wrap_i32, wrap_i64] at h0 h1 h2 h3 h4 h5 h6 h7 h8 h9 h10 h11 h12 h13 h14 h15 h16 h17 h18 h19 h20 h21 h22 h23 h24 h25 h26 h27 h28
  omega
theorem o21 (a1 : 0 ≤ env 1) (b1 : env 1 ≤ 18446744073709551615) (h0 : e2.den env = false) (h1 : e5.den env = false) (h2 : e7.den env = false) (h3 : e8.den env = false) (h4 : e9.den env = false) (h5 : e10.den env = false) (h6 : e11.den env = false) (h7 : e12.den env = false) (h8 : e13.den env = false) (h9 : e15.den env = false) (h10 : e17.den env = false) (h11 : e18.den env = false) (h12 : e20.den env = false) (h13 : e22.den env = false) (h14 : e24.den env = false) (h15 : e26.den env = false) (h16 : e28.den env = true) (h17 : e29.den env = false) (h18 : e31.den env = true) (h19 : e32.den env = false) (h20 : e34.den env = true) (h21 : e35.den env = false) (h22 : e36.den env = true) (h23 : e37.den env = false) (h24 : e38.den env = true) (h25 : e39.den env = false) (h26 : e40.den env = false) : False := by
  simp only [e2, e5, e7, e8, e9, e10, e11, e12, e13, e15, e17, e18, e20, e22, e24, e26, e28, e29, e31, e32, e34, e35, e36, e37, e38, e39, e40, den_iff, BE.P, IE.den, Bool.not_true, Bool.not_false, Int.ofNat_eq_natCast, shl32 .u64 rfl, shr32 .u64 rfl, shr32 .i64 rfl, shl48 .u64 rfl, shr48 .u64 rfl, shr48 .i64 rfl, shl56 .u64 rfl, shr56 .u64 rfl, shr56 .i64 rfl, wrap_u8, wrap_u16, wrap_u32, wrap_u64, wrap_i8, wrap_i16, wrap_i32, wrap_i64] at h0 h1 h2 h3 h4 h5 h6 h7 h8 h9 h10 h11 h12 h13 h14 h15 h16 h17 h18 h19 h20 h21 h22 h23 h24 h25 h26
  omega
theorem o22 (a1 : 0 ≤ env 1) (b1 : env 1 ≤ 18446744073709551615) (h0 : e2.den env = false) (h1 : e5.den env = false) (h2 : e7.den env = false) (h3 : e8.den env = false) (h4 : e9.den env = false) (h5 : e10.den env = false) (h6 : e11.den env = false) (h7 : e12.den env = false) (h8 : e13.den env = false) (h9 : e15.den env = false) (h10 : e17.den env = false) (h11 : e18.den env = false) (h12 : e20.den env = false) (h13 : e22.den env = false) (h14 : e24.den env = false) (h15 : e26.den env = false) (h16 : e28.den env = true) (h17 : e29.den env = false) (h18 : e31.den env = true) (h19 : e32.den env = false) (h20 : e34.den env = true) (h21 : e35.den env = false) (h22 : e36.den env = true) (h23 : e37.den env = false) (h24 : e38.den env = false) : False := by
  simp only [e2, e5, e7, e8, e9, e10, e11, e12, e13, e15, e17, e18, e20, e22, e24, e26, e28, e29, e31, e32, e34, e35, e36, e37, e38, den_iff, BE.P, IE.den, Bool.not_true, Bool.not_false, Int.ofNat_eq_natCast, shl32 .u64 rfl, shr32 .u64 rfl, shr32 .i64 rfl, shl48 .u64 rfl, shr48 .u64 rfl, shr48 .i64 rfl, shl56 .u64 rfl, shr56 .u64 rfl, shr56 .i64 rfl, wrap_u8, wrap_u16, wrap_u32, wrap_u64, wrap_i8, wrap_i16, wrap_i32, wrap_i64] at h0 h1 h2 h3 h4 h5 h6 h7 h8 h9 h10 h11 h12 h13 h14 h15 h16 h17 h18 h19 h20 h21 h22 h23 h24
  omega
theorem o23 (a1 : 0 ≤ env 1) (b1 : env 1 ≤ 18446744073709551615) (h0 : e2.den env = false) (h1 : e5.den env = false) (h2 : e7.den env = false) (h3 : e8.den env = false) (h4 : e9.den env = false) (h5 : e10.den env = false) (h6 : e11.den env = false) (h7 : e12.den env = false) (h8 : e13.den env = false) (h9 : e15.den env = false) (h10 : e17.den env = false) (h11 : e18.den env = false) (h12 : e20.den env = false) (h13 : e22.den env = false) (h14 : e24.den env = false) (h15 : e26.den env = false) (h16 : e28.den env = true) (h17 : e29.den env = false) (h18 : e31.den env = true) (h19 : e32.den env = false) (h20 : e34.den env = true) (h21 : e35.den env = false) (h22 : e36.den env = false) : False := by
  simp only [e2, e5, e7, e8, e9, e10, e11, e12, e13, e15, e17, e18, e20, e22, e24, e26, e28, e29, e31, e32, e34, e35, e36, den_iff, BE.P, IE.den, Bool.not_true, Bool.not_false, Int.ofNat_eq_natCast, shl32 .u64 rfl, shr32 .u64 rfl, shr32 .i64 rfl, shl48 .u64 rfl, shr48 .u64 rfl, shr48 .i64 rfl, shl56 .u64 rfl, shr56 .u64 rfl, shr56 .i64 rfl, wrap_u8, wrap_u16, wrap_u32, wrap_u64, wrap_i8, wrap_i16, wrap_i32, wrap_i64] at h0 h1 h2 h3 h4 h5 h6 h7 h8 h9 h10 h11 h12 h13 h14 h15 h16 h17 h18 h19 h20 h21 h22
  omega
theorem o24 (a1 : 0 ≤ env 1) (b1 : env 1 ≤ 18446744073709551615) (h0 : e2.den env = false) (h1 : e5.den env = false) (h2 : e7.den env = false) (h3 : e8.den env = false) (h4 : e9.den env = false) (h5 : e10.den env = false) (h6 : e11.den env = false) (h7 : e12.den env = false) (h8 : e13.den env = false) (h9 : e15.den env = false) (h10 : e17.den env = false) (h11 : e18.den env = false) (h12 : e20.den env = false) (h13 : e22.den env = false) (h14 : e24.den env = false) (h15 : e26.den env = false) (h16 : e28.den env = true) (h17 : e29.den env = false) (h18 : e31.den env = true) (h19 : e32.den env = false) (h20 : e34.den env = false) (h21 : e36.den env = true) (h22 : e37.den env = true) : False := by
  simp only [e2, e5, e7, e8, e9, e10, e11, e12, e13, e15, e17, e18, e20, e22, e24, e26, e28, e29, e31, e32, e34, e36, e37, den_iff, BE.P, IE.den, Bool.not_true, Bool.not_false, Int.ofNat_eq_natCast, shl32 .u64 rfl, shr32 .u64 rfl, shr32 .i64 rfl, shl48 .u64 rfl, shr48 .u64 rfl, shr48 .i64 rfl, shl56 .u64 rfl, shr56 .u64 rfl, shr56 .i64 rfl, wrap_u8, wrap_u16, wrap_u32, wrap_u64, wrap_i8, wrap_i16, wrap_i32, wrap_i64] at h0 h1 h2 h3 h4 h5 h6 h7 h8 h9 h10 h11 h12 h13 h14 h15 h16 h17 h18 h19 h20 h21 h22
  omega
theorem o25 (a1 : 0 ≤ env 1) (b1 : env 1 ≤ 18446744073709551615) (h0 : e2.den env = false) (h1 : e5.den env = false) (h2 : e7.den env = false) (h3 : e8.den env = false) (h4 : e9.den env = false) (h5 : e10.den env = false) (h6 : e11.den env = false) (h7 : e12.den env = false) (h8 : e13.den env = false) (h9 : e15.den env = false) (h10 : e17.den env = false) (h11 : e18.den env = false) (h12 : e20.den env = false) (h13 : e22.den env = false) (h14 : e24.den env = false) (h15 : e26.den env = false) (h16 : e28.den env = true) (h17 : e29.den env = false) (h18 : e31.den env = true) (h19 : e32.den env = false) (h20 : e34.den env = false) (h21 : e36.den env = true) (h22 : e37.den env = false) (h23 : e38.den env = true) (h24 : e39.den env = true) : False := by
  simp only [e2, e5, e7, e8, e9, e10, e11, e12, e13, e15, e17, e18, e20, e22, e24, e26, e28, e29, e31, e32, e34, e36, e37, e38, e39, den_iff, BE.P, IE.den, Bool.not_true, Bool.not_false, Int.ofNat_eq_natCast, shl32 .u64 rfl, shr32 .u64 rfl, shr32 .i64 rfl, shl48 .u64 rfl, shr48 .u64 rfl, shr48 .i64 rfl, shl56 .u64 rfl, shr56 .u64 rfl, shr56 .i64 rfl, wrap_u8, wrap_u16, wrap_u32, wrap_u64, wrap_i8, wrap_i16, wrap_i32, wrap_i64] at h0 h1 h2 h3 h4 h5 h6 h7 h8 h9 h10 h11 h12 h13 h14 h15 h16 h17 h18 h19 h20 h21 h22 h23 h24
  omega
theorem o26 (a1 : 0 ≤ env 1) (b1 : env 1 ≤ 18446744073709551615) (h0 : e2.den env = false) (h1 : e5.den env = false) (h2 : e7.den env = false) (h3 : e8.den env = false) (h4 : e9.den env = false) (h5 : e10.den env = false) (h6 : e11.den env = false) (h7 : e12.den env = false) (h8 : e13.den env = false) (h9 : e15.den env = false) (h10 : e17.den env = false) (h11 : e18.den env = false) (h12 : e20.den env = false) (h13 : e22.den env = false) (h14 : e24.den env = false) (h15 : e26.den env = false) (h16 : e28.den env = true) (h17 : e29.den env = false) (h18 : e31.den env = true) (h19 : e32.den env = false) (h20 : e34.den env = false) (h21 : e36.den env = true) (h22 : e37.den env = false) (h23 : e38.den env = true) (h24 : e39.den env = false) (h25 : e40.den env = true) (h26 : e41.den env = true) : False := by
  simp only [e2, e5, e7, e8, e9, e10, e11, e12, e13, e15, e17, e18, e20, e22, e24, e26, e28, e29, e31, e32, e34, e36, e37, e38, e39, e40, e41, den_iff, BE.P, IE.den, Bool.not_true, Bool.not_false, Int.ofNat_eq_natCast, shl32 .u64 rfl, shr32 .u64 rfl, shr32 .i64 rfl, shl48 .u64 rfl, shr48 .u64 rfl, shr48 .i64 rfl, shl56 .u64 rfl, shr56 .u64 rfl, shr56 .i64 rfl, wrap_u8, wrap_u16, wrap_u32, wrap_u64, wrap_i8, wrap_i16, wrap_i32, wrap_i64] at h0 h1 h2 h3 h4 h5 h6 h7 h8 h9 h10 h11 h12 h13 h14 h15 h16 h17 h18 h19 h20 h21 h22 h23 h24 h25 h26
  omega
theorem o27 (a1 : 0 ≤ env 1) (b1 : env 1 ≤ 18446744073709551615) (h0 : e2.den env = false) (h1 : e5.den env = false) (h2 : e7.den env = false) (h3 : e8.den env = false) (h4 : e9.den env = false) (h5 : e10.den env = false) (h6 : e11.den env = false) (h7 : e12.den env = false) (h8 : e13.den env = false) (h9 : e15.den env = false) (h10 : e17.den env = false) (h11 : e18.den env = false) (h12 : e20.den env = false) (h13 : e22.den env = false) (h14 : e24.den env = false) (h15 : e26.den env = false) (h16 : e28.den env = true) (h17 : e29.den env = false) (h18 : e31.den env = true) (h19 : e32.den env = false) (h20 : e34.den env = false) (h21 : e36.den env = true) (h22 : e37.den env = false) (h23 : e38.den env = true) (h24 : e39.den env = false) (h25 : e40.den env = true) (h26 : e41.den env = false) (h27 : e42.den env = false) : False := by
  simp only [e2, e5, e7, e8, e9, e10, e11, e12, e13, e15, e17, e18, e20, e22, e24, e26, e28, e29, e31, e32, e34, e36, e37, e38, e39, e40, e41, e42, den_iff, BE.P, IE.den, Bool.not_true, Bool.not_false, Int.ofNat_eq_natCast, shl32 .u64 rfl, shr32 .u64 rfl, shr32 .i64 rfl, shl48 .u64 rfl, shr48 .u64 rfl, shr48 .i64 rfl, shl56 .u64 rfl, shr56 .u64 rfl, shr56 .i64 rfl, wrap_u8, wrap_u16, wrap_u32, wrap_u64, wrap_i8, wrap_i16, wrap_i32, wrap_i64] at h0 h1 h2 h3 h4 h5 h6 h7 h8 h9 h10 h11 h12 h13 h14 h15 h16 h17 h18 h19 h20 h21 h22 h23 h24 h25 h26 h27
  omega
theorem o28 (a1 : 0 ≤ env 1) (b1 : env 1 ≤ 18446744073709551615) (h0 : e2.den env = false) (h1 : e5.den env = false) (h2 : e7.den env = false) (h3 : e8.den env = false) (h4 : e9.den env = false) (h5 : e10.den env = false) (h6 : e11.den env = false) (h7 : e12.den env = false) (h8 : e13.den env = false) (h9 : e15.den env = false) (h10 : e17.den env = false) (h11 : e18.den env = false) (h12 : e20.den env = false) (h13 : e22.den env = false) (h14 : e24.den env = false) (h15 : e26.den env = false) (h16 : e28.den env = true) (h17 : e29.den env = false) (h18 : e31.den env = true) (h19 : e32.den env = false) (h20 : e34.den env = false) (h21 : e36.den env = true) (h22 : e37.den env = false) (h23 : e38.den env = true) (h24 : e39.den env = false) (h25 : e40.den env = false) : False := by
  simp only [e2, e5, e7, e8, e9, e10, e11, e12, e13, e15, e17, e18, e20, e22, e24, e26, e28, e29, e31, e32, e34, e36, e37, e38, e39, e40, den_iff, BE.P, IE.den, Bool.not_true, Bool.not_false, Int.ofNat_eq_natCast, shl32 .u64 rfl, shr32 .u64 rfl, shr32 .i64 rfl, shl48 .u64 rfl, shr48 .u64 rfl, shr48 .i64 rfl, shl56 .u64 rfl, shr56 .u64 rfl, shr56 .i64 rfl, wrap_u8, wrap_u16, wrap_u32, wrap_u64, wrap_i8, wrap_i16, wrap_i32, wrap_i64] at h0 h1 h2 h3 h4 h5 h6 h7 h8 h9 h10 h11 h12 h13 h14 h15 h16 h17 h18 h19 h20 h21 h22 h23 h24 h25
  omega
theorem o29 (a1 : 0 ≤ env 1) (b1 : env 1 ≤ 18446744073709551615) (h0 : e2.den env = false) (h1 : e5.den env = false) (h2 : e7.den env = false) (h3 : e8.den env = false) (h4 : e9.den env = false) (h5 : e10.den env = false) (h6 : e11.den env = false) (h7 : e12.den env = false) (h8 : e13.den env = false) (h9 : e15.den env = false) (h10 : e17.den env = false) (h11 : e18.den env = false) (h12 : e20.den env = false) (h13 : e22.den env = false) (h14 : e24.den env = false) (h15 : e26.den env = false) (h16 : e28.den env = true) (h17 : e29.den env = false) (h18 : e31.den env = true) (h19 : e32.den env = false) (h20 : e34.den env = false) (h21 : e36.den env = true) (h22 : e37.den env = false) (h23 : e38.den env = false) : False := by
  simp only [e2, e5, e7, e8, e9, e10, e11, e12, e13, e15, e17, e18, e20, e22, e24, e26, e28, e29, e31, e32, e34, e36, e37, e38, den_iff, BE.P, IE.den, Bool.not_true, Bool.not_false, Int.ofNat_eq_natCast, shl32 .u64 rfl, shr32 .u64 rfl, shr32 .i64 rfl, shl48 .u64 rfl, shr48 .u64 rfl, shr48 .i64 rfl, shl56 .u64 rfl, shr56 .u64 rfl, shr56 .i64 rfl, wrap_u8, wrap_u16, wrap_u32, wrap_u64, wrap_i8, wrap_i16, wrap_i32, wrap_i64] at h0 h1 h2 h3 h4 h5 h6 h7 h8 h9 h10 h11 h12 h13 h14 h15 h16 h17 h18 h19 h20 h21 h22 h23
  omega
theorem o30 (a1 : 0 ≤ env 1) (b1 : env 1 ≤ 18446744073709551615) (h0 : e2.den env = false) (h1 : e5.den env = false) (h2 : e7.den env = false) (h3 : e8.den env = false) (h4 : e9.den env = false) (h5 : e10.den env = false) (h6 : e11.den env = false) (h7 : e12.den env = false) (h8 : e13.den env = false) (h9 : e15.den env = false) (h10 : e17.den env = false) (h11 : e18.den env = false) (h12 : e20.den env = false) (h13 : e22.den env = false) (h14 : e24.den env = false) (h15 : e26.den env = false) (h16 : e28.den env = true) (h17 : e29.den env = false) (h18 : e31.den env = true) (h19 : e32.den env = false) (h20 : e34.den env = false) (h21 : e36.den env = false) : False := by
  simp only [e2, e5, e7, e8, e9, e10, e11, e12, e13, e15, e17, e18, e20, e22, e24, e26, e28, e29, e31, e32, e34, e36, den_iff, BE.P, IE.den, Bool.not_true, Bool.not_false, Int.ofNat_eq_natCast, shl32 .u64 rfl, shr32 .u64 rfl, shr32 .i64 rfl, shl48 .u64 rfl, shr48 .u64 rfl, shr48 .i64 rfl, shl56 .u64 rfl, shr56 .u64 rfl, shr56 .i64 rfl, wrap_u8, wrap_u16, wrap_u32, wrap_u64, wrap_i8, wrap_i16, wrap_i32, wrap_i64] at h0 h1 h2 h3 h4 h5 h6 h7 h8 h9 h10 h11 h12 h13 h14 h15 h16 h17 h18 h19 h20 h21
  omega
theorem o31 (a1 : 0 ≤ env 1) (b1 : env 1 ≤ 18446744073709551615) (h0 : e2.den env = false) (h1 : e5.den env = false) (h2 : e7.den env = false) (h3 : e8.den env = false) (h4 : e9.den env = false) (h5 : e10.den env = false) (h6 : e11.den env = false) (h7 : e12.den env = false) (h8 : e13.den env = false) (h9 : e15.den env = false) (h10 : e17.den env = false) (h11 : e18.den env = false) (h12 : e20.den env = false) (h13 : e22.den env = false) (h14 : e24.den env = false) (h15 : e26.den env = false) (h16 : e28.den env = true) (h17 : e29.den env = false) (h18 : e31.den env = false) (h19 : e34.den env = true) : False := by
  simp only [e2, e5, e7, e8, e9, e10, e11, e12, e13, e15, e17, e18, e20, e22, e24, e26, e28, e29, e31, e34, den_iff, BE.P, IE.den, Bool.not_true, Bool.not_false, Int.ofNat_eq_natCast, shl32 .u64 rfl, shr32 .u64 rfl, shr32 .i64 rfl, shl48 .u64 rfl, shr48 .u64 rfl, shr48 .i64 rfl, shl56 .u64 rfl, shr56 .u64 rfl, shr56 .i64 rfl, wrap_u8, wrap_u16, wrap_u32, wrap_u64, wrap_i8, wrap_i16, wrap_i32, wrap_i64] at h0 h1 h2 h3 h4 h5 h6 h7 h8 h9 h10 h11 h12 h13 h14 h15 h16 h17 h18 h19
  omega
theorem o32 (a1 : 0 ≤ env 1) (b1 : env 1 ≤ 18446744073709551615) (h0 : e2.den env = false) (h1 : e5.den env = false) (h2 : e7.den env = false) (h3 : e8.den env = false) (h4 : e9.den env = false) (h5 : e10.den env = false) (h6 : e11.den env = false) (h7 : e12.den env = false) (h8 : e13.den env = false) (h9 : e15.den env = false) (h10 : e17.den env = false) (h11 : e18.den env = false) (h12 : e20.den env = false) (h13 : e22.den env = false) (h14 : e24.den env = false) (h15 : e26.den env = false) (h16 : e28.den env = true) (h17 : e29.den env = false) (h18 : e31.den env = false) (h19 : e34.den env = false) (h20 : e36.den env = true) (h21 : e37.den env = true) : False := by
  simp only [e2, e5, e7, e8, e9, e10, e11, e12, e13, e15, e17, e18, e20, e22, e24, e26, e28, e29, e31, e34, e36, e37, den_iff, BE.P, IE.den, Bool.not_true, Bool.not_false, Int.ofNat_eq_natCast, shl32 .u64 rfl, shr32 .u64 rfl, shr32 .i64 rfl, shl48 .u64 rfl, shr48 .u64 rfl, shr48 .i64 rfl, shl56 .u64 rfl, shr56 .u64 rfl, shr56 .i64 rfl, wrap_u8, wrap_u16, wrap_u32, wrap_u64, wrap_i8, wrap_i16, wrap_i32, wrap_i64] at h0 h1 h2 h3 h4 h5 h6 h7 h8 h9 h10 h11 h12 h13 h14 h15 h16 h17 h18 h19 h20 h21
  omega
theorem o33 (a1 : 0 ≤ env 1) (b1 : env 1 ≤ 18446744073709551615) (h0 : e2.den env = false) (h1 : e5.den env = false) (h2 : e7.den env = false) (h3 : e8.den env = false) (h4 : e9.den env = false) (h5 : e10.den env = false) (h6 : e11.den env = false) (h7 : e12.den env = false) (h8 : e13.den env = false) (h9 : e15.den env = false) (h10 : e17.den env = false) (h11 : e18.den env = false) (h12 : e20.den env = false) (h13 : e22.den env = false) (h14 : e24.den env = false) (h15 : e26.den env = false) (h16 : e28.den env = true) (h17 : e29.den env = false) (h18 : e31.den env = false) (h19 : e34.den env = false) (h20 : e36.den env = true) (h21 : e37.den env = false) (h22 : e38.den env = true) (h23 : e39.den env = true) : False := by
  simp only [e2, e5, e7, e8, e9, e10, e11, e12, e13, e15, e17, e18, e20, e22, e24, e26, e28, e29, e31, e34, e36, e37, e38, e39, den_iff, BE.P, IE.den, Bool.not_true, Bool.not_false, Int.ofNat_eq_natCast, shl32 .u64 rfl, shr32 .u64 rfl, shr32 .i64 rfl, shl48 .u64 rfl, shr48 .u64 rfl, shr48 .i64 rfl, shl56 .u64 rfl, shr56 .u64 rfl, shr56 .i64 rfl, wrap_u8, wrap_u16, wrap_u32, wrap_u64, wrap_i8, wrap_i16, wrap_i32, wrap_i64] at h0 h1 h2 h3 h4 h5 h6 h7 h8 h9 h10 h11 h12 h13 h14 h15 h16 h17 h18 h19 h20 h21 h22 h23
  omega
theorem o34 (a1 : 0 ≤ env 1) (b1 : env 1 ≤ 18446744073709551615) (h0 : e2.den env = false) (h1 : e5.den env = false) (h2 : e7.den env = false) (h3 : e8.den env = false) (h4 : e9.den env = false) (h5 : e10.den env = false) (h6 : e11.den env = false) (h7 : e12.den env = false) (h8 : e13.den env = false) (h9 : e15.den env = false) (h10 : e17.den env = false) (h11 : e18.den env = false) (h12 : e20.den env = false) (h13 : e22.den env = false) (h14 : e24.den env = false) (h15 : e26.den env = false) (h16 : e28.den env = true) (h17 : e29.den env = false) (h18 : e31.den env = false) (h19 : e34.den env = false) (h20 : e36.den env = true) (h21 : e37.den env = false) (h22 : e38.den env = true) (h23 : e39.den env = false) (h24 : e40.den env = true) (h25 : e41.den env = false) : False := by
  simp only [e2, e5, e7, e8, e9, e10, e11, e12, e13, e15, e17, e18, e20, e22, e24, e26, e28, e29, e31, e34, e36, e37, e38, e39, e40, e41, den_iff, BE.P, IE.den, Bool.not_true, Bool.not_false, Int.ofNat_eq_natCast, shl32 .u64 rfl, shr32 .u64 rfl, shr32 .i64 rfl, shl48 .u64 rfl, shr48 .u64 rfl, shr48 .i64 rfl, shl56 .u64 rfl, shr56 .u64 rfl, shr56 .i64 rfl, wrap_u8, wrap_u16, wrap_u32, wrap_u64, wrap_i8, wrap_i16, wrap_i32, wrap_i64] at h0 h1 h2 h3 h4 h5 h6 h7 h8 h9 h10 h11 h12 h13 h14 h15 h16 h17 h18 h19 h20 h21 h22 h23 h24 h25
  omega
theorem o35 (a1 : 0 ≤ env 1) (b1 : env 1 ≤ 18446744073709551615) (h0 : e2.den env = false) (h1 : e5.den env = false) (h2 : e7.den env = false) (h3 : e8.den env = false) (h4 : e9.den env = false) (h5 : e10.den env = false) (h6 : e11.den env = false) (h7 : e12.den env = false) (h8 : e13.den env = false) (h9 : e15.den env = false) (h10 : e17.den env = false) (h11 : e18.den env = false) (h12 : e20.den env = false) (h13 : e22.den env = false) (h14 : e24.den env = false) (h15 : e26.den env = false) (h16 : e28.den env = true) (h17 : e29.den env = false) (h18 : e31.den env = false) (h19 : e34.den env = false) (h20 : e36.den env = true) (h21 : e37.den env = false) (h22 : e38.den env = true) (h23 : e39.den env = false) (h24 : e40.den env = false) : False := by
  simp only [e2, e5, e7, e8, e9, e10, e11, e12, e13, e15, e17, e18, e20, e22, e24, e26, e28, e29, e31, e34, e36, e37, e38, e39, e40, den_iff, BE.P, IE.den, Bool.not_true, Bool.not_false, Int.ofNat_eq_natCast, shl32 .u64 rfl, shr32 .u64 rfl, shr32 .i64 rfl, shl48 .u64 rfl, shr48 .u64 rfl, shr48 .i64 rfl, shl56 .u64 rfl, shr56 .u64 rfl, shr56 .i64 rfl, wrap_u8, wrap_u16, wrap_u32, wrap_u64, wrap_i8, wrap_i16, wrap_i32, wrap_i64] at h0 h1 h2 h3 h4 h5 h6 h7 h8 h9 h10 h11 h12 h13 h14 h15 h16 h17 h18 h19 h20 h21 h22 h23 h24
  omega
theorem o36 (a1 : 0 ≤ env 1) (b1 : env 1 ≤ 18446744073709551615) (h0 : e2.den env = false) (h1 : e5.den env = false) (h2 : e7.den env = false) (h3 : e8.den env = false) (h4 : e9.den env = false) (h5 : e10.den env = false) (h6 : e11.den env = false) (h7 : e12.den env = false) (h8 : e13.den env = false) (h9 : e15.den env = false) (h10 : e17.den env = false) (h11 : e18.den env = false) (h12 : e20.den env = false) (h13 : e22.den env = false) (h14 : e24.den env = false) (h15 : e26.den env = false) (h16 : e28.den env = true) (h17 : e29.den env = false) (h18 : e31.den env = false) (h19 : e34.den env = false) (h20 : e36.den env = true) (h21 : e37.den env = false) (h22 : e38.den env = false) : False := by
  simp only [e2, e5, e7, e8, e9, e10, e11, e12, e13, e15, e17, e18, e20, e22, e24, e26, e28, e29, e31, e34, e36, e37, e38, den_iff, BE.P, IE.den, Bool.not_true, Bool.not_false, Int.ofNat_eq_natCast, shl32 .u64 rfl, shr32 .u64 rfl, shr32 .i64 rfl, shl48 .u64 rfl, shr48 .u64 rfl, shr48 .i64 rfl, shl56 .u64 rfl, shr56 .u64 rfl, shr56 .i64 rfl, wrap_u8, wrap_u16, wrap_u32, wrap_u64, wrap_i8, wrap_i16, wrap_i32, wrap_i64] at h0 h1 h2 h3 h4 h5 h6 h7 h8 h9 h10 h11 h12 h13 h14 h15 h16 h17 h18 h19 h20 h21 h22
  omega
theorem o37 (a1 : 0 ≤ env 1) (b1 : env 1 ≤ 18446744073709551615) (h0 : e2.den env = false) (h1 : e5.den env = false) (h2 : e7.den env = false) (h3 : e8.den env = false) (h4 : e9.den env = false) (h5 : e10.den env = false) (h6 : e11.den env = false) (h7 : e12.den env = false) (h8 : e13.den env = false) (h9 : e15.den env = false) (h10 : e17.den env = false) (h11 : e18.den env = false) (h12 : e20.den env = false) (h13 : e22.den env = false) (h14 : e24.den env = false) (h15 : e26.den env = false) (h16 : e28.den env = true) (h17 : e29.den env = false) (h18 : e31.den env = false) (h19 : e34.den env = false) (h20 : e36.den env = false) : False := by
  simp only [e2, e5, e7, e8, e9, e10, e11, e12, e13, e15, e17, e18, e20, e22, e24, e26, e28, e29, e31, e34, e36, den_iff, BE.P, IE.den, Bool.not_true, Bool.not_false, Int.ofNat_eq_natCast, shl32 .u64 rfl, shr32 .u64 rfl, shr32 .i64 rfl, shl48 .u64 rfl, shr48 .u64 rfl, shr48 .i64 rfl, shl56 .u64 rfl, shr56 .u64 rfl, shr56 .i64 rfl, wrap_u8, wrap_u16, wrap_u32, wrap_u64, wrap_i8, wrap_i16, wrap_i32, wrap_i64] at h0 h1 h2 h3 h4 h5 h6 h7 h8 h9 h10 h11 h12 h13 h14 h15 h16 h17 h18 h19 h20
  omega
theorem o38 (a1 : 0 ≤ env 1) (b1 : env 1 ≤ 18446744073709551615) (h0 : e2.den env = false) (h1 : e5.den env = false) (h2 : e7.den env = false) (h3 : e8.den env = false) (h4 : e9.den env = false) (h5 : e10.den env = false) (h6 : e11.den env = false) (h7 : e12.den env = false) (h8 : e13.den env = false) (h9 : e15.den env = false) (h10 : e17.den env = false) (h11 : e18.den env = false) (h12 : e20.den env = false) (h13 : e22.den env = false) (h14 : e24.den env = false) (h15 : e26.den env = false) (h16 : e28.den env = false) (h17 : e31.den env = true) : False := by
  simp only [e2, e5, e7, e8, e9, e10, e11, e12, e13, e15, e17, e18, e20, e22, e24, e26, e28, e31, den_iff, BE.P, IE.den, Bool.not_true, Bool.not_false, Int.ofNat_eq_natCast, shl32 .u64 rfl, shr32 .u64 rfl, shr32 .i64 rfl, shl48 .u64 rfl, shr48 .u64 rfl, shr48 .i64 rfl, shl56 .u64 rfl, shr56 .u64 rfl, shr56 .i64 rfl, wrap_u8, wrap_u16, wrap_u32, wrap_u64, wrap_i8, wrap_i16, wrap_i32, wrap_i64] at h0 h1 h2 h3 h4 h5 h6 h7 h8 h9 h10 h11 h12 h13 h14 h15 h16 h17
  omega
theorem o39 (a1 : 0 ≤ env 1) (b1 : env 1 ≤ 18446744073709551615) (h0 : e2.den env = false) (h1 : e5.den env = false) (h2 : e7.den env = false) (h3 : e8.den env = false) (h4 : e9.den env = false) (h5 : e10.den env = false) (h6 : e11.den env = false) (h7 : e12.den env = false) (h8 : e13.den env = false) (h9 : e15.den env = false) (h10 : e17.den env = false) (h11 : e18.den env = false) (h12 : e20.den env = false) (h13 : e22.den env = false) (h14 : e24.den env = false) (h15 : e26.den env = false) (h16 : e28.den env = false) (h17 : e31.den env = false) (h18 : e34.den env = true) : False := by
  simp only [e2, e5, e7, e8, e9, e10, e11, e12, e13, e15, e17, e18, e20, e22, e24, e26, e28, e31, e34, den_iff, BE.P, IE.den, Bool.not_true, Bool.not_false, Int.ofNat_eq_natCast, shl32 .u64 rfl, shr32 .u64 rfl, shr32 .i64 rfl, shl48 .u64 rfl, shr48 .u64 rfl, shr48 .i64 rfl, shl56 .u64 rfl, shr56 .u64 rfl, shr56 .i64 rfl, wrap_u8, wrap_u16, wrap_u32, wrap_u64, wrap_i8, wrap_i16, wrap_i32, wrap_i64] at h0 h1 h2 h3 h4 h5 h6 h7 h8 h9 h10 h11 h12 h13 h14 h15 h16 h17 h18
  omega
theorem o40 (a1 : 0 ≤ env 1) (b1 : env 1 ≤ 18446744073709551615) (h0 : e2.den env = false) (h1 : e5.den env = false) (h2 : e7.den env = false) (h3 : e8.den env = false) (h4 : e9.den env = false) (h5 : e10.den env = false) (h6 : e11.den env = false) (h7 : e12.den env = false) (h8 : e13.den env = false) (h9 : e15.den env = false) (h10 : e17.den env = false) (h11 : e18.den env = false) (h12 : e20.den env = false) (h13 : e22.den env = false) (h14 : e24.den env = false) (h15 : e26.den env = false) (h16 : e28.den env = false) (h17 : e31.den env = false) (h18 : e34.den env = false) (h19 : e36.den env = true) (h20 : e37.den env = false) (h21 : e38.den env = true) (h22 : e39.den env = false) (h23 : e40.den env = true) : False := by
  simp only [e2, e5, e7, e8, e9, e10, e11, e12, e13, e15, e17, e18, e20, e22, e24, e26, e28, e31, e34, e36, e37, e38, e39, e40, den_iff, BE.P, IE.den, Bool.not_true, Bool.not_false, Int.ofNat_eq_natCast, shl32 .u64 rfl, shr32 .u64 rfl, shr32 .i64 rfl, shl48 .u64 rfl, shr48 .u64 rfl, shr48 .i64 rfl, shl56 .u64 rfl, shr56 .u64 rfl, shr56 .i64 rfl, wrap_u8, wrap_u16, wrap_u32, wrap_u64, wrap_i8, wrap_i16, wrap_i32, wrap_i64] at h0 h1 h2 h3 h4 h5 h6 h7 h8 h9 h10 h11 h12 h13 h14 h15 h16 h17 h18 h19 h20 h21 h22 h23
  omega
theorem o41 (a1 : 0 ≤ env 1) (b1 : env 1 ≤ 18446744073709551615) (h0 : e2.den env = false) (h1 : e5.den env = false) (h2 : e7.den env = false) (h3 : e8.den env = false) (h4 : e9.den env = false) (h5 : e10.den env = false) (h6 : e11.den env = false) (h7 : e12.den env = false) (h8 : e13.den env = false) (h9 : e15.den env = false) (h10 : e17.den env = false) (h11 : e18.den env = false) (h12 : e20.den env = false) (h13 : e22.den env = false) (h14 : e24.den env = false) (h15 : e26.den env = false) (h16 : e28.den env = false) (h17 : e31.den env = false) (h18 : e34.den env = false) (h19 : e36.den env = true) (h20 : e37.den env = false) (h21 : e38.den env = true) (h22 : e39.den env = false) (h23 : e40.den env = false) (h24 : e42.den env = true) : False := by
  simp only [e2, e5, e7, e8, e9, e10, e11, e12, e13, e15, e17, e18, e20, e22, e24, e26, e28, e31, e34, e36, e37, e38, e39, e40, e42, den_iff, BE.P, IE.den, Bool.not_true, Bool.not_false, Int.ofNat_eq_natCast, shl32 .u64 rfl, shr32 .u64 rfl, shr32 .i64 rfl, shl48 .u64 rfl, shr48 .u64 rfl, shr48 .i64 rfl, shl56 .u64 rfl, shr56 .u64 rfl, shr56 .i64 rfl, wrap_u8, wrap_u16, wrap_u32, wrap_u64, wrap_i8, wrap_i16, wrap_i32, wrap_i64] at h0 h1 h2 h3 h4 h5 h6 h7 h8 h9 h10 h11 h12 h13 h14 h15 h16 h17 h18 h19 h20 h21 h22 h23 h24
  omega
theorem o42 (a1 : 0 ≤ env 1) (b1 : env 1 ≤ 18446744073709551615) (h0 : e2.den env = false) (h1 : e5.den env = false) (h2 : e7.den env = false) (h3 : e8.den env = false) (h4 : e9.den env = false) (h5 : e10.den env = false) (h6 : e11.den env = false) (h7 : e12.den env = false) (h8 : e13.den env = false) (h9 : e15.den env = false) (h10 : e17.den env = false) (h11 : e18.den env = false) (h12 : e20.den env = false) (h13 : e22.den env = false) (h14 : e24.den env = false) (h15 : e26.den env = false) (h16 : e28.den env = false) (h17 : e31.den env = false) (h18 : e34.den env = false) (h19 : e36.den env = true) (h20 : e37.den env = false) (h21 : e38.den env = false) (h22 : e40.den env = true) : False := by
  simp only [e2, e5, e7, e8, e9, e10, e11, e12, e13, e15, e17, e18, e20, e22, e24, e26, e28, e31, e34, e36, e37, e38, e40, den_iff, BE.P, IE.den, Bool.not_true, Bool.not_false, Int.ofNat_eq_natCast, shl32 .u64 rfl, shr32 .u64 rfl, shr32 .i64 rfl, shl48 .u64 rfl, shr48 .u64 rfl, shr48 .i64 rfl, shl56 .u64 rfl, shr56 .u64 rfl, shr56 .i64 rfl, wrap_u8, wrap_u16, wrap_u32, wrap_u64, wrap_i8, wrap_i16, wrap_i32, wrap_i64] at h0 h1 h2 h3 h4 h5 h6 h7 h8 h9 h10 h11 h12 h13 h14 h15 h16 h17 h18 h19 h20 h21 h22
  omega
theorem o43 (a1 : 0 ≤ env 1) (b1 : env 1 ≤ 18446744073709551615) (h0 : e2.den env = false) (h1 : e5.den env = false) (h2 : e7.den env = false) (h3 : e8.den env = false) (h4 : e9.den env = false) (h5 : e10.den env = false) (h6 : e11.den env = false) (h7 : e12.den env = false) (h8 : e13.den env = false) (h9 : e15.den env = false) (h10 : e17.den env = false) (h11 : e18.den env = false) (h12 : e20.den env = false) (h13 : e22.den env = false) (h14 : e24.den env = false) (h15 : e26.den env = false) (h16 : e28.den env = false) (h17 : e31.den env = false) (h18 : e34.den env = false) (h19 : e36.den env = true) (h20 : e37.den env = false) (h21 : e38.den env = false) (h22 : e40.den env = false) (h23 : e42.den env = true) : False := by
  simp only [e2, e5, e7, e8, e9, e10, e11, e12, e13, e15, e17, e18, e20, e22, e24, e26, e28, e31, e34, e36, e37, e38, e40, e42, den_iff, BE.P, IE.den, Bool.not_true, Bool.not_false, Int.ofNat_eq_natCast, shl32 .u64 rfl, shr32 .u64 rfl, shr32 .i64 rfl, shl48 .u64 rfl, shr48 .u64 rfl, shr48 .i64 rfl, shl56 .u64 rfl, shr56 .u64 rfl, shr56 .i64 rfl, wrap_u8, wrap_u16, wrap_u32, wrap_u64, wrap_i8, wrap_i16, wrap_i32, wrap_i64] at h0 h1 h2 h3 h4 h5 h6 h7 h8 h9 h10 h11 h12 h13 h14 h15 h16 h17 h18 h19 h20 h21 h22 h23
  omega
theorem o44 (a1 : 0 ≤ env 1) (b1 : env 1 ≤ 18446744073709551615) (h0 : e2.den env = false) (h1 : e5.den env = false) (h2 : e7.den env = false) (h3 : e8.den env = false) (h4 : e9.den env = false) (h5 : e10.den env = false) (h6 : e11.den env = false) (h7 : e12.den env = false) (h8 : e13.den env = false) (h9 : e15.den env = false) (h10 : e17.den env = false) (h11 : e18.den env = false) (h12 : e20.den env = false) (h13 : e22.den env = false) (h14 : e24.den env = false) (h15 : e26.den env = false) (h16 : e28.den env = false) (h17 : e31.den env = false) (h18 : e34.den env = false) (h19 : e36.den env = false) (h20 : e38.den env = true) : False := by
  simp only [e2, e5, e7, e8, e9, e10, e11, e12, e13, e15, e17, e18, e20, e22, e24, e26, e28, e31, e34, e36, e38, den_iff, BE.P, IE.den, Bool.not_true, Bool.not_false, Int.ofNat_eq_natCast, shl32 .u64 rfl, shr32 .u64 rfl, shr32 .i64 rfl, shl48 .u64 rfl, shr48 .u64 rfl, shr48 .i64 rfl, shl56 .u64 rfl, shr56 .u64 rfl, shr56 .i64 rfl, wrap_u8, wrap_u16, wrap_u32, wrap_u64, wrap_i8, wrap_i16, wrap_i32, wrap_i64] at h0 h1 h2 h3 h4 h5 h6 h7 h8 h9 h10 h11 h12 h13 h14 h15 h16 h17 h18 h19 h20
  omega
theorem o45 (a1 : 0 ≤ env 1) (b1 : env 1 ≤ 18446744073709551615) (h0 : e2.den env = false) (h1 : e5.den env = false) (h2 : e7.den env = false) (h3 : e8.den env = false) (h4 : e9.den env = false) (h5 : e10.den env = false) (h6 : e11.den env = false) (h7 : e12.den env = false) (h8 : e13.den env = false) (h9 : e15.den env = false) (h10 : e17.den env = false) (h11 : e18.den env = false) (h12 : e20.den env = false) (h13 : e22.den env = false) (h14 : e24.den env = false) (h15 : e26.den env = false) (h16 : e28.den env = false) (h17 : e31.den env = false) (h18 : e34.den env = false) (h19 : e36.den env = false) (h20 : e38.den env = false) (h21 : e40.den env = true) : False := by
  simp only [e2, e5, e7, e8, e9, e10, e11, e12, e13, e15, e17, e18, e20, e22, e24, e26, e28, e31, e34, e36, e38, e40, den_iff, BE.P, IE.den, Bool.not_true, Bool.not_false, Int.ofNat_eq_natCast, shl32 .u64 rfl, shr32 .u64 rfl, shr32 .i64 rfl, shl48 .u64 rfl, shr48 .u64 rfl, shr48 .i64 rfl, shl56 .u64 rfl, shr56 .u64 rfl, shr56 .i64 rfl, wrap_u8, wrap_u16, wrap_u32, wrap_u64, wrap_i8, wrap_i16, wrap_i32, wrap_i64] at h0 h1 h2 h3 h4 h5 h6 h7 h8 h9 h10 h11 h12 h13 h14 h15 h16 h17 h18 h19 h20 h21
  omega
theorem o46 (a1 : 0 ≤ env 1) (b1 : env 1 ≤ 18446744073709551615) (h0 : e2.den env = false) (h1 : e5.den env = false) (h2 : e7.den env = false) (h3 : e8.den env = false) (h4 : e9.den env = false) (h5 : e10.den env = false) (h6 : e11.den env = false) (h7 : e12.den env = false) (h8 : e13.den env = false) (h9 : e15.den env = false) (h10 : e17.den env = false) (h11 : e18.den env = false) (h12 : e20.den env = false) (h13 : e22.den env = false) (h14 : e24.den env = false) (h15 : e26.den env = false) (h16 : e28.den env = false) (h17 : e31.den env = false) (h18 : e34.den env = false) (h19 : e36.den env = false) (h20 : e38.den env = false) (h21 : e40.den env = false) (h22 : e42.den env = true) : False := by
  simp only [e2, e5, e7, e8, e9, e10, e11, e12, e13, e15, e17, e18, e20, e22, e24, e26, e28, e31, e34, e36, e38, e40, e42, den_iff, BE.P, IE.den, Bool.not_true, Bool.not_false, Int.ofNat_eq_natCast, shl32 .u64 rfl, shr32 .u64 rfl, shr32 .i64 rfl, shl48 .u64 rfl, shr48 .u64 rfl, shr48 .i64 rfl, shl56 .u64 rfl, shr56 .u64 rfl, shr56 .i64 rfl, wrap_u8, wrap_u16, wrap_u32, wrap_u64, wrap_i8, wrap_i16, wrap_i32, wrap_i64] at h0 h1 h2 h3 h4 h5 h6 h7 h8 h9 h10 h11 h12 h13 h14 h15 h16 h17 h18 h19 h20 h21 h22
  omega
theorem o47 (a1 : 0 ≤ env 1) (b1 : env 1 ≤ 18446744073709551615) (h0 : e0.den env = true) (h1 : e1.den env = false) : False := by
  simp only [e0, e1, den_iff, BE.P, IE.den, Bool.not_true, Bool.not_false, Int.ofNat_eq_natCast, shl32 .u64 rfl, shr32 .u64 rfl, shr32 .i64 rfl, shl48 .u64 rfl, shr48 .u64 rfl, shr48 .i64 rfl, shl56 .u64 rfl, shr56 .u64 rfl, shr56 .i64 rfl, wrap_u8, wrap_u16, wrap_u32, wrap_u64, wrap_i8, wrap_i16, wrap_i32, wrap_i64] at h0 h1
  omega
theorem o48 (a1 : 0 ≤ env 1) (b1 : env 1 ≤ 18446744073709551615) (h0 : e0.den env = false) : False := by
  simp only [e0, den_iff, BE.P, IE.den, Bool.not_true, Bool.not_false, Int.ofNat_eq_natCast, shl32 .u64 rfl, shr32 .u64 rfl, shr32 .i64 rfl, shl48 .u64 rfl, shr48 .u64 rfl, shr48 .i64 rfl, shl56 .u64 rfl, shr56 .u64 rfl, shr56 .i64 rfl, wrap_u8, wrap_u16, wrap_u32, wrap_u64, wrap_i8, wrap_i16, wrap_i32, wrap_i64] at h0
  omega
theorem holds (a0 : (-9223372036854775808) ≤ env 0) (b0 : env 0 ≤ 9223372036854775807) (a1 : 0 ≤ env 1) (b1 : env 1 ≤ 18446744073709551615) : dt.holds env :=
  holds_fork
   (fun h0 => holds_fork
    (fun h1 => holds_fork
     (fun h2 => holds_fork
      (fun h3 => holds_fork
       (fun h4 => holds_true)
       (fun h4 => holds_out (o0 a1 b1 h0 h1 h3 h4)))
      (fun h3 => holds_fork
       (fun h4 => holds_out (o1 a1 b1 h0 h1 h3 h4))
       (fun h4 => holds_true)))
     (fun h2 => holds_fork
      (fun h3 => holds_fork
       (fun h4 => holds_true)
       (fun h4 => holds_true))
      (fun h3 => holds_fork
       (fun h4 => holds_true)
       (fun h4 => holds_fork
        (fun h5 => holds_true)
        (fun h5 => holds_fork
         (fun h6 => holds_true)
         (fun h6 => holds_fork
          (fun h7 => holds_true)
          (fun h7 => holds_fork
           (fun h8 => holds_true)
           (fun h8 => holds_fork
            (fun h9 => holds_true)
            (fun h9 => holds_fork
             (fun h10 => holds_fork
              (fun h11 => holds_true)
              (fun h11 => holds_out (o2 a1 b1 h0 h1 h11)))
             (fun h10 => holds_fork
              (fun h11 => holds_fork
               (fun h12 => holds_true)
               (fun h12 => holds_out (o3 a1 b1 h0 h1 h12)))
              (fun h11 => holds_fork
               (fun h12 => holds_fork
                (fun h13 => holds_true)
                (fun h13 => holds_out (o4 a1 b1 h0 h1 h13)))
               (fun h12 => holds_fork
                (fun h13 => holds_fork
                 (fun h14 => holds_true)
                 (fun h14 => holds_out (o5 a1 b1 h0 h1 h14)))
                (fun h13 => holds_fork
                 (fun h14 => holds_fork
                  (fun h15 => holds_true)
                  (fun h15 => holds_out (o6 a1 b1 h0 h1 h15)))
                 (fun h14 => holds_fork
                  (fun h15 => holds_fork
                   (fun h16 => holds_true)
                   (fun h16 => holds_out (o7 a1 b1 h0 h1 h16)))
                  (fun h15 => holds_fork
                   (fun h16 => holds_fork
                    (fun h17 => holds_true)
                    (fun h17 => holds_out (o8 a1 b1 h0 h1 h17)))
                   (fun h16 => holds_fork
                    (fun h17 => holds_fork
                     (fun h18 => holds_true)
                     (fun h18 => holds_out (o9 a1 b1 h0 h1 h18)))
                    (fun h17 => holds_fork
                     (fun h18 => holds_fork
                      (fun h19 => holds_fork
                       (fun h20 => holds_out (o10 a1 b1 h2 h3 h4 h5 h6 h7 h8 h9 h10 h11 h12 h13 h14 h15 h16 h17 h18 h19))
                       (fun h20 => holds_out (o11 a1 b1 h2 h3 h4 h5 h6 h7 h8 h9 h10 h11 h12 h13 h14 h15 h16 h17 h18 h19)))
                      (fun h19 => holds_fork
                       (fun h20 => holds_fork
                        (fun h21 => holds_fork
                         (fun h22 => holds_out (o12 a1 b1 h2 h3 h4 h5 h6 h7 h8 h9 h10 h11 h12 h13 h14 h15 h16 h17 h18 h19 h20 h21))
                         (fun h22 => holds_out (o13 a1 b1 h2 h3 h4 h5 h6 h7 h8 h9 h10 h11 h12 h13 h14 h15 h16 h17 h18 h19 h20 h21)))
                        (fun h21 => holds_fork
                         (fun h22 => holds_fork
                          (fun h23 => holds_fork
                           (fun h24 => holds_out (o14 a1 b1 h2 h3 h4 h5 h6 h7 h8 h9 h10 h11 h12 h13 h14 h15 h16 h17 h18 h19 h20 h21 h22 h23))
                           (fun h24 => holds_out (o15 a1 b1 h2 h3 h4 h5 h6 h7 h8 h9 h10 h11 h12 h13 h14 h15 h16 h17 h18 h19 h20 h21 h22 h23)))
                          (fun h23 => holds_fork
                           (fun h24 => holds_fork
                            (fun h25 => holds_out (o16 a1 b1 h2 h3 h4 h5 h6 h7 h8 h9 h10 h11 h12 h13 h14 h15 h16 h17 h18 h19 h20 h21 h22 h23 h24 h25))
                            (fun h25 => holds_fork
                             (fun h26 => holds_fork
                              (fun h27 => holds_out (o17 a1 b1 h2 h3 h4 h5 h6 h7 h8 h9 h10 h11 h12 h13 h14 h15 h16 h17 h18 h19 h20 h21 h22 h23 h24 h25 h26 h27))
                              (fun h27 => holds_fork
                               (fun h28 => holds_fork
                                (fun h29 => holds_out (o18 a1 b1 h2 h3 h4 h5 h6 h7 h8 h9 h10 h11 h12 h13 h14 h15 h16 h17 h18 h19 h20 h21 h22 h23 h24 h25 h26 h27 h28 h29))
                                (fun h29 => holds_fork
                                 (fun h30 => holds_fork
                                  (fun h31 => holds_out (o19 a1 b1 h2 h3 h4 h5 h6 h7 h8 h9 h10 h11 h12 h13 h14 h15 h16 h17 h18 h19 h20 h21 h22 h23 h24 h25 h26 h27 h28 h29 h30 h31))
                                  (fun h31 => holds_true))
                                 (fun h30 => holds_out (o20 a1 b1 h2 h3 h4 h5 h6 h7 h8 h9 h10 h11 h12 h13 h14 h15 h16 h17 h18 h19 h20 h21 h22 h23 h24 h25 h26 h27 h28 h29 h30))))
                               (fun h28 => holds_out (o21 a1 b1 h2 h3 h4 h5 h6 h7 h8 h9 h10 h11 h12 h13 h14 h15 h16 h17 h18 h19 h20 h21 h22 h23 h24 h25 h26 h27 h28))))
                             (fun h26 => holds_out (o22 a1 b1 h2 h3 h4 h5 h6 h7 h8 h9 h10 h11 h12 h13 h14 h15 h16 h17 h18 h19 h20 h21 h22 h23 h24 h25 h26))))
                           (fun h24 => holds_out (o23 a1 b1 h2 h3 h4 h5 h6 h7 h8 h9 h10 h11 h12 h13 h14 h15 h16 h17 h18 h19 h20 h21 h22 h23 h24))))
                         (fun h22 => holds_fork
                          (fun h23 => holds_fork
                           (fun h24 => holds_out (o24 a1 b1 h2 h3 h4 h5 h6 h7 h8 h9 h10 h11 h12 h13 h14 h15 h16 h17 h18 h19 h20 h21 h22 h23 h24))
                           (fun h24 => holds_fork
                            (fun h25 => holds_fork
                             (fun h26 => holds_out (o25 a1 b1 h2 h3 h4 h5 h6 h7 h8 h9 h10 h11 h12 h13 h14 h15 h16 h17 h18 h19 h20 h21 h22 h23 h24 h25 h26))
                             (fun h26 => holds_fork
                              (fun h27 => holds_fork
                               (fun h28 => holds_out (o26 a1 b1 h2 h3 h4 h5 h6 h7 h8 h9 h10 h11 h12 h13 h14 h15 h16 h17 h18 h19 h20 h21 h22 h23 h24 h25 h26 h27 h28))
                               (fun h28 => holds_fork
                                (fun h29 => holds_fork
                                 (fun h30 => holds_true)
                                 (fun h30 => holds_true))
                                (fun h29 => holds_out (o27 a1 b1 h2 h3 h4 h5 h6 h7 h8 h9 h10 h11 h12 h13 h14 h15 h16 h17 h18 h19 h20 h21 h22 h23 h24 h25 h26 h27 h28 h29))))
                              (fun h27 => holds_out (o28 a1 b1 h2 h3 h4 h5 h6 h7 h8 h9 h10 h11 h12 h13 h14 h15 h16 h17 h18 h19 h20 h21 h22 h23 h24 h25 h26 h27))))
                            (fun h25 => holds_out (o29 a1 b1 h2 h3 h4 h5 h6 h7 h8 h9 h10 h11 h12 h13 h14 h15 h16 h17 h18 h19 h20 h21 h22 h23 h24 h25))))
                          (fun h23 => holds_out (o30 a1 b1 h2 h3 h4 h5 h6 h7 h8 h9 h10 h11 h12 h13 h14 h15 h16 h17 h18 h19 h20 h21 h22 h23)))))
                       (fun h20 => holds_fork
                        (fun h21 => holds_out (o31 a1 b1 h2 h3 h4 h5 h6 h7 h8 h9 h10 h11 h12 h13 h14 h15 h16 h17 h18 h19 h20 h21))
                        (fun h21 => holds_fork
                         (fun h22 => holds_fork
                          (fun h23 => holds_out (o32 a1 b1 h2 h3 h4 h5 h6 h7 h8 h9 h10 h11 h12 h13 h14 h15 h16 h17 h18 h19 h20 h21 h22 h23))
                          (fun h23 => holds_fork
                           (fun h24 => holds_fork
                            (fun h25 => holds_out (o33 a1 b1 h2 h3 h4 h5 h6 h7 h8 h9 h10 h11 h12 h13 h14 h15 h16 h17 h18 h19 h20 h21 h22 h23 h24 h25))
                            (fun h25 => holds_fork
                             (fun h26 => holds_fork
                              (fun h27 => holds_true)
                              (fun h27 => holds_out (o34 a1 b1 h2 h3 h4 h5 h6 h7 h8 h9 h10 h11 h12 h13 h14 h15 h16 h17 h18 h19 h20 h21 h22 h23 h24 h25 h26 h27)))
                             (fun h26 => holds_out (o35 a1 b1 h2 h3 h4 h5 h6 h7 h8 h9 h10 h11 h12 h13 h14 h15 h16 h17 h18 h19 h20 h21 h22 h23 h24 h25 h26))))
                           (fun h24 => holds_out (o36 a1 b1 h2 h3 h4 h5 h6 h7 h8 h9 h10 h11 h12 h13 h14 h15 h16 h17 h18 h19 h20 h21 h22 h23 h24))))
                         (fun h22 => holds_out (o37 a1 b1 h2 h3 h4 h5 h6 h7 h8 h9 h10 h11 h12 h13 h14 h15 h16 h17 h18 h19 h20 h21 h22))))))
                     (fun h18 => holds_fork
                      (fun h19 => holds_out (o38 a1 b1 h2 h3 h4 h5 h6 h7 h8 h9 h10 h11 h12 h13 h14 h15 h16 h17 h18 h19))
                      (fun h19 => holds_fork
                       (fun h20 => holds_out (o39 a1 b1 h2 h3 h4 h5 h6 h7 h8 h9 h10 h11 h12 h13 h14 h15 h16 h17 h18 h19 h20))
                       (fun h20 => holds_fork
                        (fun h21 => holds_fork
                         (fun h22 => holds_true)
                         (fun h22 => holds_fork
                          (fun h23 => holds_fork
                           (fun h24 => holds_true)
                           (fun h24 => holds_fork
                            (fun h25 => holds_out (o40 a1 b1 h2 h3 h4 h5 h6 h7 h8 h9 h10 h11 h12 h13 h14 h15 h16 h17 h18 h19 h20 h21 h22 h23 h24 h25))
                            (fun h25 => holds_fork
                             (fun h26 => holds_out (o41 a1 b1 h2 h3 h4 h5 h6 h7 h8 h9 h10 h11 h12 h13 h14 h15 h16 h17 h18 h19 h20 h21 h22 h23 h24 h25 h26))
                             (fun h26 => holds_true))))
                          (fun h23 => holds_fork
                           (fun h24 => holds_out (o42 a1 b1 h2 h3 h4 h5 h6 h7 h8 h9 h10 h11 h12 h13 h14 h15 h16 h17 h18 h19 h20 h21 h22 h23 h24))
                           (fun h24 => holds_fork
                            (fun h25 => holds_out (o43 a1 b1 h2 h3 h4 h5 h6 h7 h8 h9 h10 h11 h12 h13 h14 h15 h16 h17 h18 h19 h20 h21 h22 h23 h24 h25))
                            (fun h25 => holds_true)))))
                        (fun h21 => holds_fork
                         (fun h22 => holds_out (o44 a1 b1 h2 h3 h4 h5 h6 h7 h8 h9 h10 h11 h12 h13 h14 h15 h16 h17 h18 h19 h20 h21 h22))
                         (fun h22 => holds_fork
                          (fun h23 => holds_out (o45 a1 b1 h2 h3 h4 h5 h6 h7 h8 h9 h10 h11 h12 h13 h14 h15 h16 h17 h18 h19 h20 h21 h22 h23))
                          (fun h23 => holds_fork
                           (fun h24 => holds_out (o46 a1 b1 h2 h3 h4 h5 h6 h7 h8 h9 h10 h11 h12 h13 h14 h15 h16 h17 h18 h19 h20 h21 h22 h23 h24))
                           (fun h24 => holds_true))))))))))))))))))))))))
    (fun h1 => holds_out (o47 a1 b1 h0 h1)))
   (fun h0 => holds_out (o48 a1 b1 h0))
end
end Go.Vm.VNumOnes
