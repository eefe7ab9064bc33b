/- The law NumTwos: what is to be shown of the numbers. -/
import Derived.Test.YtpbnbgjclalpeaaDoorVNumTwosB
import Derived.Test.YtpbnbgjclalpeaaDoorVmRot
set_option linter.unusedVariables false
set_option linter.unusedSimpArgs false
namespace Go.Vm.VNumTwos
open Go.Vm
section
variable {env : Nat → Int}
theorem shlN (k : IntKind) (x : Int) (m : Nat) (hm : m ≤ k.bits) : IOp.den .shl k x (m : Int) = x * ((2 ^ m : Nat) : Int) := by
  rw [shl_den, show min ((m : Int).toNat) k.bits = m by omega]
  norm_cast
theorem shrN (k : IntKind) (x : Int) (m : Nat) (hm : m ≤ k.bits) : IOp.den .shr k x (m : Int) = x / ((2 ^ m : Nat) : Int) := by
  rw [shr_den, show min ((m : Int).toNat) k.bits = m by omega, show ((2 : Int) ^ m) = ((2 ^ m : Nat) : Int) by norm_cast]
  exact Int.fdiv_eq_ediv_of_nonneg _ (Int.natCast_nonneg _)
theorem shl32 (k : IntKind) (hk : k.bits = 64) (x : Int) : IOp.den .shl k x ((32 : Nat) : Int) = x * 4294967296 := shlN k x 32 (by omega)
theorem shr32 (k : IntKind) (hk : k.bits = 64) (x : Int) : IOp.den .shr k x ((32 : Nat) : Int) = x / 4294967296 := shrN k x 32 (by omega)
theorem shl0 (k : IntKind) (x : Int) : IOp.den .shl k x ((0 : Nat) : Int) = x := by
  have := shlN k x 0 (by omega)
  rw [this]; simp
theorem shr0 (k : IntKind) (x : Int) : IOp.den .shr k x ((0 : Nat) : Int) = x := by
  have := shrN k x 0 (by omega)
  rw [this]; simp
theorem cut32 (x : Int) : IOp.den .shr .u64 (wrapF .u64 (IOp.den .shl .u64 x ((32 : Nat) : Int))) ((32 : Nat) : Int) = x % 4294967296 := by
  rw [shl32 _ rfl, shr32 _ rfl, wrap_u64]; omega
theorem cut0 (x : Int) : IOp.den .shr .u64 (wrapF .u64 (IOp.den .shl .u64 x ((0 : Nat) : Int))) ((0 : Nat) : Int) = x % 18446744073709551616 := by
  rw [shl0, shr0, wrap_u64]
theorem sgn32 (x : Int) : IOp.den .shr .i64 (wrapF .i64 (wrapF .u64 (IOp.den .shl .u64 (x % 4294967296) ((32 : Nat) : Int)))) ((32 : Nat) : Int) = (x + 2147483648) % 4294967296 - 2147483648 := by
  rw [shl32 _ rfl, shr32 _ rfl, wrap_u64, wrap_i64]; omega
theorem sgn0 (x : Int) : IOp.den .shr .i64 (wrapF .i64 (wrapF .u64 (IOp.den .shl .u64 (x % 18446744073709551616) ((0 : Nat) : Int)))) ((0 : Nat) : Int) = (x + 9223372036854775808) % 18446744073709551616 - 9223372036854775808 := by
  rw [shl0, shr0, wrap_u64, wrap_i64]; omega
theorem s_i64 (x : Int) : wrapF .i64 (wrapF .i32 (andF .u64 x ((4294967295 : Nat) : Int))) = (x + 2147483648) % 4294967296 - 2147483648 := by
  rw [wrap_i64, wrap_i32, and_low]; omega
theorem n32 (x : Int) : andF .i64 (wrapF .i64 (andF .u64 x ((4294967295 : Nat) : Int))) ((31 : Nat) : Int) = x % 32 := by
  rw [wrap_i64, and_low, and_i31]; omega
theorem n64 (x : Int) : andF .i64 (wrapF .i64 x) ((63 : Nat) : Int) = x % 64 := by
  rw [wrap_i64, and_i63]; omega
theorem t32 (x : Int) : (x % 4294967296).tmod ((32 : Nat) : Int) = x % 32 := by
  rw [Int.tmod_eq_emod_of_nonneg (by omega)]; omega
theorem t64 (x : Int) : (x % 18446744073709551616).tmod ((64 : Nat) : Int) = x % 64 := by
  rw [Int.tmod_eq_emod_of_nonneg (by omega)]; omega
theorem tdiv_neg1 (x : Int) : x.tdiv (-1) = -x := by rw [Int.tdiv_neg, Int.tdiv_one]
theorem tmod_neg1 (x : Int) : x.tmod (-1) = 0 := by rw [Int.tmod_neg, Int.tmod_one]
theorem neg1 : Int.negSucc 0 = -1 := rfl
theorem negA : Int.negSucc 2147483647 = -2147483648 := rfl
theorem negB : Int.negSucc 9223372036854775807 = -9223372036854775808 := rfl
theorem small {a b : Int} (ha : 0 ≤ a) (hb : 0 ≤ b) : 0 ≤ a.tdiv b ∧ a.tdiv b ≤ a ∧ 0 ≤ a.tmod b ∧ a.tmod b ≤ a := by
  have h1 := Int.tdiv_nonneg ha hb
  have h2 : a.tdiv b ≤ a := Int.tdiv_le_self b ha
  have h3 : 0 ≤ a.tmod b := Int.tmod_nonneg b ha
  have h4 : a.tdiv b * b + a.tmod b = a := by rw [Int.mul_comm]; exact Int.mul_tdiv_add_tmod a b
  have h5 := Int.mul_nonneg h1 hb
  exact ⟨h1, h2, h3, by omega⟩
theorem shr_lt (a1 : 0 ≤ env 1) (b1 : env 1 ≤ 18446744073709551615) (s : Int) : IOp.den .shr .u64 (env 1) s % 18446744073709551616 = IOp.den .shr .u64 (env 1) s := by
  rw [shr_den]
  generalize min s.toNat (IntKind.bits .u64) = j
  have hj : (0 : Int) ≤ 2 ^ j := Int.le_of_lt (Int.pow_pos (by decide))
  rw [Int.fdiv_eq_ediv_of_nonneg _ hj]
  have h1 := Int.ediv_nonneg a1 hj
  have h2 := Int.ediv_le_self (2 ^ j) a1
  omega
theorem imod_lt (x : Int) : imod x (two .u64) < 2 ^ 64 := by
  have h := imod_eq x (two .u64) (by decide)
  have h2 : ((two .u64 : Nat) : Int) = 18446744073709551616 := by decide
  rw [h2] at h
  omega
theorem and_lt (x y : Int) : andF .u64 x y % 18446744073709551616 = andF .u64 x y := by
  show ((Nat.land (imod x (two .u64)) (imod y (two .u64)) : Nat) : Int) % _ = ((Nat.land (imod x (two .u64)) (imod y (two .u64)) : Nat) : Int)
  have : Nat.land (imod x (two .u64)) (imod y (two .u64)) < 2 ^ 64 := Nat.and_lt_two_pow _ (imod_lt y)
  omega
theorem or_lt (x y : Int) : orF .u64 x y % 18446744073709551616 = orF .u64 x y := by
  show ((Nat.lor (imod x (two .u64)) (imod y (two .u64)) : Nat) : Int) % _ = ((Nat.lor (imod x (two .u64)) (imod y (two .u64)) : Nat) : Int)
  have : Nat.lor (imod x (two .u64)) (imod y (two .u64)) < 2 ^ 64 := Nat.or_lt_two_pow (imod_lt x) (imod_lt y)
  omega
theorem xor_lt (x y : Int) : xorF .u64 x y % 18446744073709551616 = xorF .u64 x y := by
  show ((Nat.xor (imod x (two .u64)) (imod y (two .u64)) : Nat) : Int) % _ = ((Nat.xor (imod x (two .u64)) (imod y (two .u64)) : Nat) : Int)
  have : Nat.xor (imod x (two .u64)) (imod y (two .u64)) < 2 ^ 64 := Nat.xor_lt_two_pow (imod_lt x) (imod_lt y)
  omega
theorem o0 (a1 : 0 ≤ env 1) (b1 : env 1 ≤ 18446744073709551615) (a2 : 0 ≤ env 2) (b2 : env 2 ≤ 18446744073709551615) (h0 : e15.den env = true) (h1 : e16.den env = false) : False := by
  have m1 : env 1 % 18446744073709551616 = env 1 := by omega
  have m2 : env 2 % 18446744073709551616 = env 2 := by omega
  have m3 : (env 1).tmod (env 2) % 18446744073709551616 = (env 1).tmod (env 2) := by have := small a1 a2; omega
  simp only [e15, e16, IE.den, den_iff, BE.P, Bool.not_true, Bool.not_false, Int.ofNat_eq_natCast, den_and, den_tmod, s_i64, n32, n64, cut32, cut0, sgn32, sgn0, t32, t64, neg1, negA, negB] at h0 h1
  try simp only [den_add, den_sub, den_mul, den_tdiv, den_tmod, den_and, den_or, den_xor, and_low, and_31, and_63, and_lt, or_lt, xor_lt, shr_lt a1 b1, wrap_u32, wrap_u64, wrap_i32, wrap_i64, tdiv_neg1, tmod_neg1, m1, m2, m3] at h0 h1
  first | omega | (try simp only [not_true_eq_false] at *)
theorem o1 (a1 : 0 ≤ env 1) (b1 : env 1 ≤ 18446744073709551615) (a2 : 0 ≤ env 2) (b2 : env 2 ≤ 18446744073709551615) (h0 : e15.den env = false) (h1 : e16.den env = true) : False := by
  have m1 : env 1 % 18446744073709551616 = env 1 := by omega
  have m2 : env 2 % 18446744073709551616 = env 2 := by omega
  have m3 : (env 1).tmod (env 2) % 18446744073709551616 = (env 1).tmod (env 2) := by have := small a1 a2; omega
  simp only [e15, e16, IE.den, den_iff, BE.P, Bool.not_true, Bool.not_false, Int.ofNat_eq_natCast, den_and, den_tmod, s_i64, n32, n64, cut32, cut0, sgn32, sgn0, t32, t64, neg1, negA, negB] at h0 h1
  try simp only [den_add, den_sub, den_mul, den_tdiv, den_tmod, den_and, den_or, den_xor, and_low, and_31, and_63, and_lt, or_lt, xor_lt, shr_lt a1 b1, wrap_u32, wrap_u64, wrap_i32, wrap_i64, tdiv_neg1, tmod_neg1, m1, m2, m3] at h0 h1
  first | omega | (try simp only [not_true_eq_false] at *)
theorem o2 (a1 : 0 ≤ env 1) (b1 : env 1 ≤ 18446744073709551615) (a2 : 0 ≤ env 2) (b2 : env 2 ≤ 18446744073709551615) (h0 : e18.den env = true) (h1 : e19.den env = false) : False := by
  have m1 : env 1 % 18446744073709551616 = env 1 := by omega
  have m2 : env 2 % 18446744073709551616 = env 2 := by omega
  have m3 : (env 1).tmod (env 2) % 18446744073709551616 = (env 1).tmod (env 2) := by have := small a1 a2; omega
  simp only [e18, e19, IE.den, den_iff, BE.P, Bool.not_true, Bool.not_false, Int.ofNat_eq_natCast, den_and, den_tmod, s_i64, n32, n64, cut32, cut0, sgn32, sgn0, t32, t64, neg1, negA, negB] at h0 h1
  try simp only [den_add, den_sub, den_mul, den_tdiv, den_tmod, den_and, den_or, den_xor, and_low, and_31, and_63, and_lt, or_lt, xor_lt, shr_lt a1 b1, wrap_u32, wrap_u64, wrap_i32, wrap_i64, tdiv_neg1, tmod_neg1, m1, m2, m3] at h0 h1
  first | omega | (try simp only [not_true_eq_false] at *)
theorem o3 (a1 : 0 ≤ env 1) (b1 : env 1 ≤ 18446744073709551615) (a2 : 0 ≤ env 2) (b2 : env 2 ≤ 18446744073709551615) (h0 : e18.den env = false) (h1 : e19.den env = true) : False := by
  have m1 : env 1 % 18446744073709551616 = env 1 := by omega
  have m2 : env 2 % 18446744073709551616 = env 2 := by omega
  have m3 : (env 1).tmod (env 2) % 18446744073709551616 = (env 1).tmod (env 2) := by have := small a1 a2; omega
  simp only [e18, e19, IE.den, den_iff, BE.P, Bool.not_true, Bool.not_false, Int.ofNat_eq_natCast, den_and, den_tmod, s_i64, n32, n64, cut32, cut0, sgn32, sgn0, t32, t64, neg1, negA, negB] at h0 h1
  try simp only [den_add, den_sub, den_mul, den_tdiv, den_tmod, den_and, den_or, den_xor, and_low, and_31, and_63, and_lt, or_lt, xor_lt, shr_lt a1 b1, wrap_u32, wrap_u64, wrap_i32, wrap_i64, tdiv_neg1, tmod_neg1, m1, m2, m3] at h0 h1
  first | omega | (try simp only [not_true_eq_false] at *)
theorem o4 (a1 : 0 ≤ env 1) (b1 : env 1 ≤ 18446744073709551615) (a2 : 0 ≤ env 2) (b2 : env 2 ≤ 18446744073709551615) (h0 : e21.den env = true) (h1 : e22.den env = false) : False := by
  have m1 : env 1 % 18446744073709551616 = env 1 := by omega
  have m2 : env 2 % 18446744073709551616 = env 2 := by omega
  have m3 : (env 1).tmod (env 2) % 18446744073709551616 = (env 1).tmod (env 2) := by have := small a1 a2; omega
  simp only [e21, e22, IE.den, den_iff, BE.P, Bool.not_true, Bool.not_false, Int.ofNat_eq_natCast, den_and, den_tmod, s_i64, n32, n64, cut32, cut0, sgn32, sgn0, t32, t64, neg1, negA, negB] at h0 h1
  try simp only [den_add, den_sub, den_mul, den_tdiv, den_tmod, den_and, den_or, den_xor, and_low, and_31, and_63, and_lt, or_lt, xor_lt, shr_lt a1 b1, wrap_u32, wrap_u64, wrap_i32, wrap_i64, tdiv_neg1, tmod_neg1, m1, m2, m3] at h0 h1
  first | omega | (try simp only [not_true_eq_false] at *)
theorem o5 (a1 : 0 ≤ env 1) (b1 : env 1 ≤ 18446744073709551615) (a2 : 0 ≤ env 2) (b2 : env 2 ≤ 18446744073709551615) (h0 : e21.den env = false) (h1 : e22.den env = true) : False := by
  have m1 : env 1 % 18446744073709551616 = env 1 := by omega
  have m2 : env 2 % 18446744073709551616 = env 2 := by omega
  have m3 : (env 1).tmod (env 2) % 18446744073709551616 = (env 1).tmod (env 2) := by have := small a1 a2; omega
  simp only [e21, e22, IE.den, den_iff, BE.P, Bool.not_true, Bool.not_false, Int.ofNat_eq_natCast, den_and, den_tmod, s_i64, n32, n64, cut32, cut0, sgn32, sgn0, t32, t64, neg1, negA, negB] at h0 h1
  try simp only [den_add, den_sub, den_mul, den_tdiv, den_tmod, den_and, den_or, den_xor, and_low, and_31, and_63, and_lt, or_lt, xor_lt, shr_lt a1 b1, wrap_u32, wrap_u64, wrap_i32, wrap_i64, tdiv_neg1, tmod_neg1, m1, m2, m3] at h0 h1
  first | omega | (try simp only [not_true_eq_false] at *)
theorem o6 (a1 : 0 ≤ env 1) (b1 : env 1 ≤ 18446744073709551615) (a2 : 0 ≤ env 2) (b2 : env 2 ≤ 18446744073709551615) (h0 : e24.den env = true) (h1 : e25.den env = false) : False := by
  have m1 : env 1 % 18446744073709551616 = env 1 := by omega
  have m2 : env 2 % 18446744073709551616 = env 2 := by omega
  have m3 : (env 1).tmod (env 2) % 18446744073709551616 = (env 1).tmod (env 2) := by have := small a1 a2; omega
  simp only [e24, e25, IE.den, den_iff, BE.P, Bool.not_true, Bool.not_false, Int.ofNat_eq_natCast, den_and, den_tmod, s_i64, n32, n64, cut32, cut0, sgn32, sgn0, t32, t64, neg1, negA, negB] at h0 h1
  try simp only [den_add, den_sub, den_mul, den_tdiv, den_tmod, den_and, den_or, den_xor, and_low, and_31, and_63, and_lt, or_lt, xor_lt, shr_lt a1 b1, wrap_u32, wrap_u64, wrap_i32, wrap_i64, tdiv_neg1, tmod_neg1, m1, m2, m3] at h0 h1
  first | omega | (try simp only [not_true_eq_false] at *)
theorem o7 (a1 : 0 ≤ env 1) (b1 : env 1 ≤ 18446744073709551615) (a2 : 0 ≤ env 2) (b2 : env 2 ≤ 18446744073709551615) (h0 : e24.den env = false) (h1 : e25.den env = true) : False := by
  have m1 : env 1 % 18446744073709551616 = env 1 := by omega
  have m2 : env 2 % 18446744073709551616 = env 2 := by omega
  have m3 : (env 1).tmod (env 2) % 18446744073709551616 = (env 1).tmod (env 2) := by have := small a1 a2; omega
  simp only [e24, e25, IE.den, den_iff, BE.P, Bool.not_true, Bool.not_false, Int.ofNat_eq_natCast, den_and, den_tmod, s_i64, n32, n64, cut32, cut0, sgn32, sgn0, t32, t64, neg1, negA, negB] at h0 h1
  try simp only [den_add, den_sub, den_mul, den_tdiv, den_tmod, den_and, den_or, den_xor, and_low, and_31, and_63, and_lt, or_lt, xor_lt, shr_lt a1 b1, wrap_u32, wrap_u64, wrap_i32, wrap_i64, tdiv_neg1, tmod_neg1, m1, m2, m3] at h0 h1
  first | omega | (try simp only [not_true_eq_false] at *)
theorem o8 (a1 : 0 ≤ env 1) (b1 : env 1 ≤ 18446744073709551615) (a2 : 0 ≤ env 2) (b2 : env 2 ≤ 18446744073709551615) (h0 : e27.den env = true) (h1 : e28.den env = false) : False := by
  have m1 : env 1 % 18446744073709551616 = env 1 := by omega
  have m2 : env 2 % 18446744073709551616 = env 2 := by omega
  have m3 : (env 1).tmod (env 2) % 18446744073709551616 = (env 1).tmod (env 2) := by have := small a1 a2; omega
  simp only [e27, e28, IE.den, den_iff, BE.P, Bool.not_true, Bool.not_false, Int.ofNat_eq_natCast, den_and, den_tmod, s_i64, n32, n64, cut32, cut0, sgn32, sgn0, t32, t64, neg1, negA, negB] at h0 h1
  try simp only [den_add, den_sub, den_mul, den_tdiv, den_tmod, den_and, den_or, den_xor, and_low, and_31, and_63, and_lt, or_lt, xor_lt, shr_lt a1 b1, wrap_u32, wrap_u64, wrap_i32, wrap_i64, tdiv_neg1, tmod_neg1, m1, m2, m3] at h0 h1
  first | omega | (try simp only [not_true_eq_false] at *)
theorem o9 (a1 : 0 ≤ env 1) (b1 : env 1 ≤ 18446744073709551615) (a2 : 0 ≤ env 2) (b2 : env 2 ≤ 18446744073709551615) (h0 : e27.den env = false) (h1 : e28.den env = true) : False := by
  have m1 : env 1 % 18446744073709551616 = env 1 := by omega
  have m2 : env 2 % 18446744073709551616 = env 2 := by omega
  have m3 : (env 1).tmod (env 2) % 18446744073709551616 = (env 1).tmod (env 2) := by have := small a1 a2; omega
  simp only [e27, e28, IE.den, den_iff, BE.P, Bool.not_true, Bool.not_false, Int.ofNat_eq_natCast, den_and, den_tmod, s_i64, n32, n64, cut32, cut0, sgn32, sgn0, t32, t64, neg1, negA, negB] at h0 h1
  try simp only [den_add, den_sub, den_mul, den_tdiv, den_tmod, den_and, den_or, den_xor, and_low, and_31, and_63, and_lt, or_lt, xor_lt, shr_lt a1 b1, wrap_u32, wrap_u64, wrap_i32, wrap_i64, tdiv_neg1, tmod_neg1, m1, m2, m3] at h0 h1
  first | omega | (try simp only [not_true_eq_false] at *)
theorem o10 (a1 : 0 ≤ env 1) (b1 : env 1 ≤ 18446744073709551615) (a2 : 0 ≤ env 2) (b2 : env 2 ≤ 18446744073709551615) (h0 : e30.den env = true) (h1 : e31.den env = false) : False := by
  have m1 : env 1 % 18446744073709551616 = env 1 := by omega
  have m2 : env 2 % 18446744073709551616 = env 2 := by omega
  have m3 : (env 1).tmod (env 2) % 18446744073709551616 = (env 1).tmod (env 2) := by have := small a1 a2; omega
  simp only [e30, e31, IE.den, den_iff, BE.P, Bool.not_true, Bool.not_false, Int.ofNat_eq_natCast, den_and, den_tmod, s_i64, n32, n64, cut32, cut0, sgn32, sgn0, t32, t64, neg1, negA, negB] at h0 h1
  try simp only [den_add, den_sub, den_mul, den_tdiv, den_tmod, den_and, den_or, den_xor, and_low, and_31, and_63, and_lt, or_lt, xor_lt, shr_lt a1 b1, wrap_u32, wrap_u64, wrap_i32, wrap_i64, tdiv_neg1, tmod_neg1, m1, m2, m3] at h0 h1
  first | omega | (try simp only [not_true_eq_false] at *)
theorem o11 (a1 : 0 ≤ env 1) (b1 : env 1 ≤ 18446744073709551615) (a2 : 0 ≤ env 2) (b2 : env 2 ≤ 18446744073709551615) (h0 : e30.den env = false) (h1 : e31.den env = true) : False := by
  have m1 : env 1 % 18446744073709551616 = env 1 := by omega
  have m2 : env 2 % 18446744073709551616 = env 2 := by omega
  have m3 : (env 1).tmod (env 2) % 18446744073709551616 = (env 1).tmod (env 2) := by have := small a1 a2; omega
  simp only [e30, e31, IE.den, den_iff, BE.P, Bool.not_true, Bool.not_false, Int.ofNat_eq_natCast, den_and, den_tmod, s_i64, n32, n64, cut32, cut0, sgn32, sgn0, t32, t64, neg1, negA, negB] at h0 h1
  try simp only [den_add, den_sub, den_mul, den_tdiv, den_tmod, den_and, den_or, den_xor, and_low, and_31, and_63, and_lt, or_lt, xor_lt, shr_lt a1 b1, wrap_u32, wrap_u64, wrap_i32, wrap_i64, tdiv_neg1, tmod_neg1, m1, m2, m3] at h0 h1
  first | omega | (try simp only [not_true_eq_false] at *)
theorem o12 (a1 : 0 ≤ env 1) (b1 : env 1 ≤ 18446744073709551615) (a2 : 0 ≤ env 2) (b2 : env 2 ≤ 18446744073709551615) (h0 : e33.den env = true) (h1 : e34.den env = false) : False := by
  have m1 : env 1 % 18446744073709551616 = env 1 := by omega
  have m2 : env 2 % 18446744073709551616 = env 2 := by omega
  have m3 : (env 1).tmod (env 2) % 18446744073709551616 = (env 1).tmod (env 2) := by have := small a1 a2; omega
  simp only [e33, e34, IE.den, den_iff, BE.P, Bool.not_true, Bool.not_false, Int.ofNat_eq_natCast, den_and, den_tmod, s_i64, n32, n64, cut32, cut0, sgn32, sgn0, t32, t64, neg1, negA, negB] at h0 h1
  try simp only [den_add, den_sub, den_mul, den_tdiv, den_tmod, den_and, den_or, den_xor, and_low, and_31, and_63, and_lt, or_lt, xor_lt, shr_lt a1 b1, wrap_u32, wrap_u64, wrap_i32, wrap_i64, tdiv_neg1, tmod_neg1, m1, m2, m3] at h0 h1
  first | omega | (try simp only [not_true_eq_false] at *)
theorem o13 (a1 : 0 ≤ env 1) (b1 : env 1 ≤ 18446744073709551615) (a2 : 0 ≤ env 2) (b2 : env 2 ≤ 18446744073709551615) (h0 : e33.den env = false) (h1 : e34.den env = true) : False := by
  have m1 : env 1 % 18446744073709551616 = env 1 := by omega
  have m2 : env 2 % 18446744073709551616 = env 2 := by omega
  have m3 : (env 1).tmod (env 2) % 18446744073709551616 = (env 1).tmod (env 2) := by have := small a1 a2; omega
  simp only [e33, e34, IE.den, den_iff, BE.P, Bool.not_true, Bool.not_false, Int.ofNat_eq_natCast, den_and, den_tmod, s_i64, n32, n64, cut32, cut0, sgn32, sgn0, t32, t64, neg1, negA, negB] at h0 h1
  try simp only [den_add, den_sub, den_mul, den_tdiv, den_tmod, den_and, den_or, den_xor, and_low, and_31, and_63, and_lt, or_lt, xor_lt, shr_lt a1 b1, wrap_u32, wrap_u64, wrap_i32, wrap_i64, tdiv_neg1, tmod_neg1, m1, m2, m3] at h0 h1
  first | omega | (try simp only [not_true_eq_false] at *)
theorem o14 (a1 : 0 ≤ env 1) (b1 : env 1 ≤ 18446744073709551615) (a2 : 0 ≤ env 2) (b2 : env 2 ≤ 18446744073709551615) (h0 : e36.den env = true) (h1 : e37.den env = false) : False := by
  have m1 : env 1 % 18446744073709551616 = env 1 := by omega
  have m2 : env 2 % 18446744073709551616 = env 2 := by omega
  have m3 : (env 1).tmod (env 2) % 18446744073709551616 = (env 1).tmod (env 2) := by have := small a1 a2; omega
  simp only [e36, e37, IE.den, den_iff, BE.P, Bool.not_true, Bool.not_false, Int.ofNat_eq_natCast, den_and, den_tmod, s_i64, n32, n64, cut32, cut0, sgn32, sgn0, t32, t64, neg1, negA, negB] at h0 h1
  try simp only [den_add, den_sub, den_mul, den_tdiv, den_tmod, den_and, den_or, den_xor, and_low, and_31, and_63, and_lt, or_lt, xor_lt, shr_lt a1 b1, wrap_u32, wrap_u64, wrap_i32, wrap_i64, tdiv_neg1, tmod_neg1, m1, m2, m3] at h0 h1
  first | omega | (try simp only [not_true_eq_false] at *)
theorem o15 (a1 : 0 ≤ env 1) (b1 : env 1 ≤ 18446744073709551615) (a2 : 0 ≤ env 2) (b2 : env 2 ≤ 18446744073709551615) (h0 : e36.den env = false) (h1 : e37.den env = true) : False := by
  have m1 : env 1 % 18446744073709551616 = env 1 := by omega
  have m2 : env 2 % 18446744073709551616 = env 2 := by omega
  have m3 : (env 1).tmod (env 2) % 18446744073709551616 = (env 1).tmod (env 2) := by have := small a1 a2; omega
  simp only [e36, e37, IE.den, den_iff, BE.P, Bool.not_true, Bool.not_false, Int.ofNat_eq_natCast, den_and, den_tmod, s_i64, n32, n64, cut32, cut0, sgn32, sgn0, t32, t64, neg1, negA, negB] at h0 h1
  try simp only [den_add, den_sub, den_mul, den_tdiv, den_tmod, den_and, den_or, den_xor, and_low, and_31, and_63, and_lt, or_lt, xor_lt, shr_lt a1 b1, wrap_u32, wrap_u64, wrap_i32, wrap_i64, tdiv_neg1, tmod_neg1, m1, m2, m3] at h0 h1
  first | omega | (try simp only [not_true_eq_false] at *)
theorem o16 (a1 : 0 ≤ env 1) (b1 : env 1 ≤ 18446744073709551615) (a2 : 0 ≤ env 2) (b2 : env 2 ≤ 18446744073709551615) (h0 : e39.den env = true) (h1 : e40.den env = false) : False := by
  have m1 : env 1 % 18446744073709551616 = env 1 := by omega
  have m2 : env 2 % 18446744073709551616 = env 2 := by omega
  have m3 : (env 1).tmod (env 2) % 18446744073709551616 = (env 1).tmod (env 2) := by have := small a1 a2; omega
  simp only [e39, e40, IE.den, den_iff, BE.P, Bool.not_true, Bool.not_false, Int.ofNat_eq_natCast, den_and, den_tmod, s_i64, n32, n64, cut32, cut0, sgn32, sgn0, t32, t64, neg1, negA, negB] at h0 h1
  try simp only [den_add, den_sub, den_mul, den_tdiv, den_tmod, den_and, den_or, den_xor, and_low, and_31, and_63, and_lt, or_lt, xor_lt, shr_lt a1 b1, wrap_u32, wrap_u64, wrap_i32, wrap_i64, tdiv_neg1, tmod_neg1, m1, m2, m3] at h0 h1
  first | omega | (try simp only [not_true_eq_false] at *)
theorem o17 (a1 : 0 ≤ env 1) (b1 : env 1 ≤ 18446744073709551615) (a2 : 0 ≤ env 2) (b2 : env 2 ≤ 18446744073709551615) (h0 : e39.den env = false) (h1 : e40.den env = true) : False := by
  have m1 : env 1 % 18446744073709551616 = env 1 := by omega
  have m2 : env 2 % 18446744073709551616 = env 2 := by omega
  have m3 : (env 1).tmod (env 2) % 18446744073709551616 = (env 1).tmod (env 2) := by have := small a1 a2; omega
  simp only [e39, e40, IE.den, den_iff, BE.P, Bool.not_true, Bool.not_false, Int.ofNat_eq_natCast, den_and, den_tmod, s_i64, n32, n64, cut32, cut0, sgn32, sgn0, t32, t64, neg1, negA, negB] at h0 h1
  try simp only [den_add, den_sub, den_mul, den_tdiv, den_tmod, den_and, den_or, den_xor, and_low, and_31, and_63, and_lt, or_lt, xor_lt, shr_lt a1 b1, wrap_u32, wrap_u64, wrap_i32, wrap_i64, tdiv_neg1, tmod_neg1, m1, m2, m3] at h0 h1
  first | omega | (try simp only [not_true_eq_false] at *)
theorem o18 (a1 : 0 ≤ env 1) (b1 : env 1 ≤ 18446744073709551615) (a2 : 0 ≤ env 2) (b2 : env 2 ≤ 18446744073709551615) (h0 : e42.den env = true) (h1 : e43.den env = false) : False := by
  have m1 : env 1 % 18446744073709551616 = env 1 := by omega
  have m2 : env 2 % 18446744073709551616 = env 2 := by omega
  have m3 : (env 1).tmod (env 2) % 18446744073709551616 = (env 1).tmod (env 2) := by have := small a1 a2; omega
  simp only [e42, e43, IE.den, den_iff, BE.P, Bool.not_true, Bool.not_false, Int.ofNat_eq_natCast, den_and, den_tmod, s_i64, n32, n64, cut32, cut0, sgn32, sgn0, t32, t64, neg1, negA, negB] at h0 h1
  try simp only [den_add, den_sub, den_mul, den_tdiv, den_tmod, den_and, den_or, den_xor, and_low, and_31, and_63, and_lt, or_lt, xor_lt, shr_lt a1 b1, wrap_u32, wrap_u64, wrap_i32, wrap_i64, tdiv_neg1, tmod_neg1, m1, m2, m3] at h0 h1
  first | omega | (try simp only [not_true_eq_false] at *)
theorem o19 (a1 : 0 ≤ env 1) (b1 : env 1 ≤ 18446744073709551615) (a2 : 0 ≤ env 2) (b2 : env 2 ≤ 18446744073709551615) (h0 : e42.den env = false) (h1 : e43.den env = true) : False := by
  have m1 : env 1 % 18446744073709551616 = env 1 := by omega
  have m2 : env 2 % 18446744073709551616 = env 2 := by omega
  have m3 : (env 1).tmod (env 2) % 18446744073709551616 = (env 1).tmod (env 2) := by have := small a1 a2; omega
  simp only [e42, e43, IE.den, den_iff, BE.P, Bool.not_true, Bool.not_false, Int.ofNat_eq_natCast, den_and, den_tmod, s_i64, n32, n64, cut32, cut0, sgn32, sgn0, t32, t64, neg1, negA, negB] at h0 h1
  try simp only [den_add, den_sub, den_mul, den_tdiv, den_tmod, den_and, den_or, den_xor, and_low, and_31, and_63, and_lt, or_lt, xor_lt, shr_lt a1 b1, wrap_u32, wrap_u64, wrap_i32, wrap_i64, tdiv_neg1, tmod_neg1, m1, m2, m3] at h0 h1
  first | omega | (try simp only [not_true_eq_false] at *)
theorem o20 (a1 : 0 ≤ env 1) (b1 : env 1 ≤ 18446744073709551615) (a2 : 0 ≤ env 2) (b2 : env 2 ≤ 18446744073709551615) (h0 : e47.den env = true) (h1 : e48.den env = false) : False := by
  have m1 : env 1 % 18446744073709551616 = env 1 := by omega
  have m2 : env 2 % 18446744073709551616 = env 2 := by omega
  have m3 : (env 1).tmod (env 2) % 18446744073709551616 = (env 1).tmod (env 2) := by have := small a1 a2; omega
  simp only [e47, e48, IE.den, den_iff, BE.P, Bool.not_true, Bool.not_false, Int.ofNat_eq_natCast, den_and, den_tmod, s_i64, n32, n64, cut32, cut0, sgn32, sgn0, t32, t64, neg1, negA, negB] at h0 h1
  try simp only [den_add, den_sub, den_mul, den_tdiv, den_tmod, den_and, den_or, den_xor, and_low, and_31, and_63, and_lt, or_lt, xor_lt, shr_lt a1 b1, wrap_u32, wrap_u64, wrap_i32, wrap_i64, tdiv_neg1, tmod_neg1, m1, m2, m3] at h0 h1
  first | omega | (try simp only [not_true_eq_false] at *)
theorem o21 (a1 : 0 ≤ env 1) (b1 : env 1 ≤ 18446744073709551615) (a2 : 0 ≤ env 2) (b2 : env 2 ≤ 18446744073709551615) (h0 : e47.den env = false) (h1 : e48.den env = true) : False := by
  have m1 : env 1 % 18446744073709551616 = env 1 := by omega
  have m2 : env 2 % 18446744073709551616 = env 2 := by omega
  have m3 : (env 1).tmod (env 2) % 18446744073709551616 = (env 1).tmod (env 2) := by have := small a1 a2; omega
  simp only [e47, e48, IE.den, den_iff, BE.P, Bool.not_true, Bool.not_false, Int.ofNat_eq_natCast, den_and, den_tmod, s_i64, n32, n64, cut32, cut0, sgn32, sgn0, t32, t64, neg1, negA, negB] at h0 h1
  try simp only [den_add, den_sub, den_mul, den_tdiv, den_tmod, den_and, den_or, den_xor, and_low, and_31, and_63, and_lt, or_lt, xor_lt, shr_lt a1 b1, wrap_u32, wrap_u64, wrap_i32, wrap_i64, tdiv_neg1, tmod_neg1, m1, m2, m3] at h0 h1
  first | omega | (try simp only [not_true_eq_false] at *)
theorem o22 (a1 : 0 ≤ env 1) (b1 : env 1 ≤ 18446744073709551615) (a2 : 0 ≤ env 2) (b2 : env 2 ≤ 18446744073709551615) (h0 : e50.den env = true) (h1 : e51.den env = false) : False := by
  have m1 : env 1 % 18446744073709551616 = env 1 := by omega
  have m2 : env 2 % 18446744073709551616 = env 2 := by omega
  have m3 : (env 1).tmod (env 2) % 18446744073709551616 = (env 1).tmod (env 2) := by have := small a1 a2; omega
  simp only [e50, e51, IE.den, den_iff, BE.P, Bool.not_true, Bool.not_false, Int.ofNat_eq_natCast, den_and, den_tmod, s_i64, n32, n64, cut32, cut0, sgn32, sgn0, t32, t64, neg1, negA, negB] at h0 h1
  try simp only [den_add, den_sub, den_mul, den_tdiv, den_tmod, den_and, den_or, den_xor, and_low, and_31, and_63, and_lt, or_lt, xor_lt, shr_lt a1 b1, wrap_u32, wrap_u64, wrap_i32, wrap_i64, tdiv_neg1, tmod_neg1, m1, m2, m3] at h0 h1
  first | omega | (try simp only [not_true_eq_false] at *)
theorem o23 (a1 : 0 ≤ env 1) (b1 : env 1 ≤ 18446744073709551615) (a2 : 0 ≤ env 2) (b2 : env 2 ≤ 18446744073709551615) (h0 : e50.den env = false) (h1 : e51.den env = true) : False := by
  have m1 : env 1 % 18446744073709551616 = env 1 := by omega
  have m2 : env 2 % 18446744073709551616 = env 2 := by omega
  have m3 : (env 1).tmod (env 2) % 18446744073709551616 = (env 1).tmod (env 2) := by have := small a1 a2; omega
  simp only [e50, e51, IE.den, den_iff, BE.P, Bool.not_true, Bool.not_false, Int.ofNat_eq_natCast, den_and, den_tmod, s_i64, n32, n64, cut32, cut0, sgn32, sgn0, t32, t64, neg1, negA, negB] at h0 h1
  try simp only [den_add, den_sub, den_mul, den_tdiv, den_tmod, den_and, den_or, den_xor, and_low, and_31, and_63, and_lt, or_lt, xor_lt, shr_lt a1 b1, wrap_u32, wrap_u64, wrap_i32, wrap_i64, tdiv_neg1, tmod_neg1, m1, m2, m3] at h0 h1
  first | omega | (try simp only [not_true_eq_false] at *)
theorem o24 (a1 : 0 ≤ env 1) (b1 : env 1 ≤ 18446744073709551615) (a2 : 0 ≤ env 2) (b2 : env 2 ≤ 18446744073709551615) (h0 : e53.den env = true) (h1 : e54.den env = false) : False := by
  have m1 : env 1 % 18446744073709551616 = env 1 := by omega
  have m2 : env 2 % 18446744073709551616 = env 2 := by omega
  have m3 : (env 1).tmod (env 2) % 18446744073709551616 = (env 1).tmod (env 2) := by have := small a1 a2; omega
  simp only [e53, e54, IE.den, den_iff, BE.P, Bool.not_true, Bool.not_false, Int.ofNat_eq_natCast, den_and, den_tmod, s_i64, n32, n64, cut32, cut0, sgn32, sgn0, t32, t64, neg1, negA, negB] at h0 h1
  try simp only [den_add, den_sub, den_mul, den_tdiv, den_tmod, den_and, den_or, den_xor, and_low, and_31, and_63, and_lt, or_lt, xor_lt, shr_lt a1 b1, wrap_u32, wrap_u64, wrap_i32, wrap_i64, tdiv_neg1, tmod_neg1, m1, m2, m3] at h0 h1
  first | omega | (try simp only [not_true_eq_false] at *)
theorem o25 (a1 : 0 ≤ env 1) (b1 : env 1 ≤ 18446744073709551615) (a2 : 0 ≤ env 2) (b2 : env 2 ≤ 18446744073709551615) (h0 : e53.den env = false) (h1 : e54.den env = true) : False := by
  have m1 : env 1 % 18446744073709551616 = env 1 := by omega
  have m2 : env 2 % 18446744073709551616 = env 2 := by omega
  have m3 : (env 1).tmod (env 2) % 18446744073709551616 = (env 1).tmod (env 2) := by have := small a1 a2; omega
  simp only [e53, e54, IE.den, den_iff, BE.P, Bool.not_true, Bool.not_false, Int.ofNat_eq_natCast, den_and, den_tmod, s_i64, n32, n64, cut32, cut0, sgn32, sgn0, t32, t64, neg1, negA, negB] at h0 h1
  try simp only [den_add, den_sub, den_mul, den_tdiv, den_tmod, den_and, den_or, den_xor, and_low, and_31, and_63, and_lt, or_lt, xor_lt, shr_lt a1 b1, wrap_u32, wrap_u64, wrap_i32, wrap_i64, tdiv_neg1, tmod_neg1, m1, m2, m3] at h0 h1
  first | omega | (try simp only [not_true_eq_false] at *)
theorem o26 (a1 : 0 ≤ env 1) (b1 : env 1 ≤ 18446744073709551615) (a2 : 0 ≤ env 2) (b2 : env 2 ≤ 18446744073709551615) (h0 : e56.den env = true) (h1 : e57.den env = false) : False := by
  have m1 : env 1 % 18446744073709551616 = env 1 := by omega
  have m2 : env 2 % 18446744073709551616 = env 2 := by omega
  have m3 : (env 1).tmod (env 2) % 18446744073709551616 = (env 1).tmod (env 2) := by have := small a1 a2; omega
  simp only [e56, e57, IE.den, den_iff, BE.P, Bool.not_true, Bool.not_false, Int.ofNat_eq_natCast, den_and, den_tmod, s_i64, n32, n64, cut32, cut0, sgn32, sgn0, t32, t64, neg1, negA, negB] at h0 h1
  try simp only [den_add, den_sub, den_mul, den_tdiv, den_tmod, den_and, den_or, den_xor, and_low, and_31, and_63, and_lt, or_lt, xor_lt, shr_lt a1 b1, wrap_u32, wrap_u64, wrap_i32, wrap_i64, tdiv_neg1, tmod_neg1, m1, m2, m3] at h0 h1
  first | omega | (try simp only [not_true_eq_false] at *)
theorem o27 (a1 : 0 ≤ env 1) (b1 : env 1 ≤ 18446744073709551615) (a2 : 0 ≤ env 2) (b2 : env 2 ≤ 18446744073709551615) (h0 : e56.den env = false) (h1 : e57.den env = true) : False := by
  have m1 : env 1 % 18446744073709551616 = env 1 := by omega
  have m2 : env 2 % 18446744073709551616 = env 2 := by omega
  have m3 : (env 1).tmod (env 2) % 18446744073709551616 = (env 1).tmod (env 2) := by have := small a1 a2; omega
  simp only [e56, e57, IE.den, den_iff, BE.P, Bool.not_true, Bool.not_false, Int.ofNat_eq_natCast, den_and, den_tmod, s_i64, n32, n64, cut32, cut0, sgn32, sgn0, t32, t64, neg1, negA, negB] at h0 h1
  try simp only [den_add, den_sub, den_mul, den_tdiv, den_tmod, den_and, den_or, den_xor, and_low, and_31, and_63, and_lt, or_lt, xor_lt, shr_lt a1 b1, wrap_u32, wrap_u64, wrap_i32, wrap_i64, tdiv_neg1, tmod_neg1, m1, m2, m3] at h0 h1
  first | omega | (try simp only [not_true_eq_false] at *)
theorem o28 (a1 : 0 ≤ env 1) (b1 : env 1 ≤ 18446744073709551615) (a2 : 0 ≤ env 2) (b2 : env 2 ≤ 18446744073709551615) (h0 : e59.den env = true) (h1 : e60.den env = false) : False := by
  have m1 : env 1 % 18446744073709551616 = env 1 := by omega
  have m2 : env 2 % 18446744073709551616 = env 2 := by omega
  have m3 : (env 1).tmod (env 2) % 18446744073709551616 = (env 1).tmod (env 2) := by have := small a1 a2; omega
  simp only [e59, e60, IE.den, den_iff, BE.P, Bool.not_true, Bool.not_false, Int.ofNat_eq_natCast, den_and, den_tmod, s_i64, n32, n64, cut32, cut0, sgn32, sgn0, t32, t64, neg1, negA, negB] at h0 h1
  try simp only [den_add, den_sub, den_mul, den_tdiv, den_tmod, den_and, den_or, den_xor, and_low, and_31, and_63, and_lt, or_lt, xor_lt, shr_lt a1 b1, wrap_u32, wrap_u64, wrap_i32, wrap_i64, tdiv_neg1, tmod_neg1, m1, m2, m3] at h0 h1
  first | omega | (try simp only [not_true_eq_false] at *)
theorem o29 (a1 : 0 ≤ env 1) (b1 : env 1 ≤ 18446744073709551615) (a2 : 0 ≤ env 2) (b2 : env 2 ≤ 18446744073709551615) (h0 : e59.den env = false) (h1 : e60.den env = true) : False := by
  have m1 : env 1 % 18446744073709551616 = env 1 := by omega
  have m2 : env 2 % 18446744073709551616 = env 2 := by omega
  have m3 : (env 1).tmod (env 2) % 18446744073709551616 = (env 1).tmod (env 2) := by have := small a1 a2; omega
  simp only [e59, e60, IE.den, den_iff, BE.P, Bool.not_true, Bool.not_false, Int.ofNat_eq_natCast, den_and, den_tmod, s_i64, n32, n64, cut32, cut0, sgn32, sgn0, t32, t64, neg1, negA, negB] at h0 h1
  try simp only [den_add, den_sub, den_mul, den_tdiv, den_tmod, den_and, den_or, den_xor, and_low, and_31, and_63, and_lt, or_lt, xor_lt, shr_lt a1 b1, wrap_u32, wrap_u64, wrap_i32, wrap_i64, tdiv_neg1, tmod_neg1, m1, m2, m3] at h0 h1
  first | omega | (try simp only [not_true_eq_false] at *)
theorem o30 (a1 : 0 ≤ env 1) (b1 : env 1 ≤ 18446744073709551615) (a2 : 0 ≤ env 2) (b2 : env 2 ≤ 18446744073709551615) (h0 : e62.den env = true) (h1 : e63.den env = false) : False := by
  have m1 : env 1 % 18446744073709551616 = env 1 := by omega
  have m2 : env 2 % 18446744073709551616 = env 2 := by omega
  have m3 : (env 1).tmod (env 2) % 18446744073709551616 = (env 1).tmod (env 2) := by have := small a1 a2; omega
  simp only [e62, e63, IE.den, den_iff, BE.P, Bool.not_true, Bool.not_false, Int.ofNat_eq_natCast, den_and, den_tmod, s_i64, n32, n64, cut32, cut0, sgn32, sgn0, t32, t64, neg1, negA, negB] at h0 h1
  try simp only [den_add, den_sub, den_mul, den_tdiv, den_tmod, den_and, den_or, den_xor, and_low, and_31, and_63, and_lt, or_lt, xor_lt, shr_lt a1 b1, wrap_u32, wrap_u64, wrap_i32, wrap_i64, tdiv_neg1, tmod_neg1, m1, m2, m3] at h0 h1
  first | omega | (try simp only [not_true_eq_false] at *)
theorem o31 (a1 : 0 ≤ env 1) (b1 : env 1 ≤ 18446744073709551615) (a2 : 0 ≤ env 2) (b2 : env 2 ≤ 18446744073709551615) (h0 : e62.den env = false) (h1 : e63.den env = true) : False := by
  have m1 : env 1 % 18446744073709551616 = env 1 := by omega
  have m2 : env 2 % 18446744073709551616 = env 2 := by omega
  have m3 : (env 1).tmod (env 2) % 18446744073709551616 = (env 1).tmod (env 2) := by have := small a1 a2; omega
  simp only [e62, e63, IE.den, den_iff, BE.P, Bool.not_true, Bool.not_false, Int.ofNat_eq_natCast, den_and, den_tmod, s_i64, n32, n64, cut32, cut0, sgn32, sgn0, t32, t64, neg1, negA, negB] at h0 h1
  try simp only [den_add, den_sub, den_mul, den_tdiv, den_tmod, den_and, den_or, den_xor, and_low, and_31, and_63, and_lt, or_lt, xor_lt, shr_lt a1 b1, wrap_u32, wrap_u64, wrap_i32, wrap_i64, tdiv_neg1, tmod_neg1, m1, m2, m3] at h0 h1
  first | omega | (try simp only [not_true_eq_false] at *)
theorem o32 (a1 : 0 ≤ env 1) (b1 : env 1 ≤ 18446744073709551615) (a2 : 0 ≤ env 2) (b2 : env 2 ≤ 18446744073709551615) (h0 : e65.den env = true) (h1 : e66.den env = false) : False := by
  have m1 : env 1 % 18446744073709551616 = env 1 := by omega
  have m2 : env 2 % 18446744073709551616 = env 2 := by omega
  have m3 : (env 1).tmod (env 2) % 18446744073709551616 = (env 1).tmod (env 2) := by have := small a1 a2; omega
  simp only [e65, e66, IE.den, den_iff, BE.P, Bool.not_true, Bool.not_false, Int.ofNat_eq_natCast, den_and, den_tmod, s_i64, n32, n64, cut32, cut0, sgn32, sgn0, t32, t64, neg1, negA, negB] at h0 h1
  try simp only [den_add, den_sub, den_mul, den_tdiv, den_tmod, den_and, den_or, den_xor, and_low, and_31, and_63, and_lt, or_lt, xor_lt, shr_lt a1 b1, wrap_u32, wrap_u64, wrap_i32, wrap_i64, tdiv_neg1, tmod_neg1, m1, m2, m3] at h0 h1
  first | omega | (try simp only [not_true_eq_false] at *)
theorem o33 (a1 : 0 ≤ env 1) (b1 : env 1 ≤ 18446744073709551615) (a2 : 0 ≤ env 2) (b2 : env 2 ≤ 18446744073709551615) (h0 : e65.den env = false) (h1 : e66.den env = true) : False := by
  have m1 : env 1 % 18446744073709551616 = env 1 := by omega
  have m2 : env 2 % 18446744073709551616 = env 2 := by omega
  have m3 : (env 1).tmod (env 2) % 18446744073709551616 = (env 1).tmod (env 2) := by have := small a1 a2; omega
  simp only [e65, e66, IE.den, den_iff, BE.P, Bool.not_true, Bool.not_false, Int.ofNat_eq_natCast, den_and, den_tmod, s_i64, n32, n64, cut32, cut0, sgn32, sgn0, t32, t64, neg1, negA, negB] at h0 h1
  try simp only [den_add, den_sub, den_mul, den_tdiv, den_tmod, den_and, den_or, den_xor, and_low, and_31, and_63, and_lt, or_lt, xor_lt, shr_lt a1 b1, wrap_u32, wrap_u64, wrap_i32, wrap_i64, tdiv_neg1, tmod_neg1, m1, m2, m3] at h0 h1
  first | omega | (try simp only [not_true_eq_false] at *)
theorem o34 (a1 : 0 ≤ env 1) (b1 : env 1 ≤ 18446744073709551615) (a2 : 0 ≤ env 2) (b2 : env 2 ≤ 18446744073709551615) (h0 : e68.den env = true) (h1 : e69.den env = false) : False := by
  have m1 : env 1 % 18446744073709551616 = env 1 := by omega
  have m2 : env 2 % 18446744073709551616 = env 2 := by omega
  have m3 : (env 1).tmod (env 2) % 18446744073709551616 = (env 1).tmod (env 2) := by have := small a1 a2; omega
  simp only [e68, e69, IE.den, den_iff, BE.P, Bool.not_true, Bool.not_false, Int.ofNat_eq_natCast, den_and, den_tmod, s_i64, n32, n64, cut32, cut0, sgn32, sgn0, t32, t64, neg1, negA, negB] at h0 h1
  try simp only [den_add, den_sub, den_mul, den_tdiv, den_tmod, den_and, den_or, den_xor, and_low, and_31, and_63, and_lt, or_lt, xor_lt, shr_lt a1 b1, wrap_u32, wrap_u64, wrap_i32, wrap_i64, tdiv_neg1, tmod_neg1, m1, m2, m3] at h0 h1
  first | omega | (try simp only [not_true_eq_false] at *)
theorem o35 (a1 : 0 ≤ env 1) (b1 : env 1 ≤ 18446744073709551615) (a2 : 0 ≤ env 2) (b2 : env 2 ≤ 18446744073709551615) (h0 : e68.den env = false) (h1 : e69.den env = true) : False := by
  have m1 : env 1 % 18446744073709551616 = env 1 := by omega
  have m2 : env 2 % 18446744073709551616 = env 2 := by omega
  have m3 : (env 1).tmod (env 2) % 18446744073709551616 = (env 1).tmod (env 2) := by have := small a1 a2; omega
  simp only [e68, e69, IE.den, den_iff, BE.P, Bool.not_true, Bool.not_false, Int.ofNat_eq_natCast, den_and, den_tmod, s_i64, n32, n64, cut32, cut0, sgn32, sgn0, t32, t64, neg1, negA, negB] at h0 h1
  try simp only [den_add, den_sub, den_mul, den_tdiv, den_tmod, den_and, den_or, den_xor, and_low, and_31, and_63, and_lt, or_lt, xor_lt, shr_lt a1 b1, wrap_u32, wrap_u64, wrap_i32, wrap_i64, tdiv_neg1, tmod_neg1, m1, m2, m3] at h0 h1
  first | omega | (try simp only [not_true_eq_false] at *)
theorem o36 (a1 : 0 ≤ env 1) (b1 : env 1 ≤ 18446744073709551615) (a2 : 0 ≤ env 2) (b2 : env 2 ≤ 18446744073709551615) (h0 : e71.den env = true) (h1 : e72.den env = false) : False := by
  have m1 : env 1 % 18446744073709551616 = env 1 := by omega
  have m2 : env 2 % 18446744073709551616 = env 2 := by omega
  have m3 : (env 1).tmod (env 2) % 18446744073709551616 = (env 1).tmod (env 2) := by have := small a1 a2; omega
  simp only [e71, e72, IE.den, den_iff, BE.P, Bool.not_true, Bool.not_false, Int.ofNat_eq_natCast, den_and, den_tmod, s_i64, n32, n64, cut32, cut0, sgn32, sgn0, t32, t64, neg1, negA, negB] at h0 h1
  try simp only [den_add, den_sub, den_mul, den_tdiv, den_tmod, den_and, den_or, den_xor, and_low, and_31, and_63, and_lt, or_lt, xor_lt, shr_lt a1 b1, wrap_u32, wrap_u64, wrap_i32, wrap_i64, tdiv_neg1, tmod_neg1, m1, m2, m3] at h0 h1
  first | omega | (try simp only [not_true_eq_false] at *)
theorem o37 (a1 : 0 ≤ env 1) (b1 : env 1 ≤ 18446744073709551615) (a2 : 0 ≤ env 2) (b2 : env 2 ≤ 18446744073709551615) (h0 : e71.den env = false) (h1 : e72.den env = true) : False := by
  have m1 : env 1 % 18446744073709551616 = env 1 := by omega
  have m2 : env 2 % 18446744073709551616 = env 2 := by omega
  have m3 : (env 1).tmod (env 2) % 18446744073709551616 = (env 1).tmod (env 2) := by have := small a1 a2; omega
  simp only [e71, e72, IE.den, den_iff, BE.P, Bool.not_true, Bool.not_false, Int.ofNat_eq_natCast, den_and, den_tmod, s_i64, n32, n64, cut32, cut0, sgn32, sgn0, t32, t64, neg1, negA, negB] at h0 h1
  try simp only [den_add, den_sub, den_mul, den_tdiv, den_tmod, den_and, den_or, den_xor, and_low, and_31, and_63, and_lt, or_lt, xor_lt, shr_lt a1 b1, wrap_u32, wrap_u64, wrap_i32, wrap_i64, tdiv_neg1, tmod_neg1, m1, m2, m3] at h0 h1
  first | omega | (try simp only [not_true_eq_false] at *)
theorem o38 (a1 : 0 ≤ env 1) (b1 : env 1 ≤ 18446744073709551615) (a2 : 0 ≤ env 2) (b2 : env 2 ≤ 18446744073709551615) (h0 : e74.den env = true) (h1 : e75.den env = false) : False := by
  have m1 : env 1 % 18446744073709551616 = env 1 := by omega
  have m2 : env 2 % 18446744073709551616 = env 2 := by omega
  have m3 : (env 1).tmod (env 2) % 18446744073709551616 = (env 1).tmod (env 2) := by have := small a1 a2; omega
  simp only [e74, e75, IE.den, den_iff, BE.P, Bool.not_true, Bool.not_false, Int.ofNat_eq_natCast, den_and, den_tmod, s_i64, n32, n64, cut32, cut0, sgn32, sgn0, t32, t64, neg1, negA, negB] at h0 h1
  try simp only [den_add, den_sub, den_mul, den_tdiv, den_tmod, den_and, den_or, den_xor, and_low, and_31, and_63, and_lt, or_lt, xor_lt, shr_lt a1 b1, wrap_u32, wrap_u64, wrap_i32, wrap_i64, tdiv_neg1, tmod_neg1, m1, m2, m3] at h0 h1
  first | omega | (try simp only [not_true_eq_false] at *)
theorem o39 (a1 : 0 ≤ env 1) (b1 : env 1 ≤ 18446744073709551615) (a2 : 0 ≤ env 2) (b2 : env 2 ≤ 18446744073709551615) (h0 : e74.den env = false) (h1 : e75.den env = true) : False := by
  have m1 : env 1 % 18446744073709551616 = env 1 := by omega
  have m2 : env 2 % 18446744073709551616 = env 2 := by omega
  have m3 : (env 1).tmod (env 2) % 18446744073709551616 = (env 1).tmod (env 2) := by have := small a1 a2; omega
  simp only [e74, e75, IE.den, den_iff, BE.P, Bool.not_true, Bool.not_false, Int.ofNat_eq_natCast, den_and, den_tmod, s_i64, n32, n64, cut32, cut0, sgn32, sgn0, t32, t64, neg1, negA, negB] at h0 h1
  try simp only [den_add, den_sub, den_mul, den_tdiv, den_tmod, den_and, den_or, den_xor, and_low, and_31, and_63, and_lt, or_lt, xor_lt, shr_lt a1 b1, wrap_u32, wrap_u64, wrap_i32, wrap_i64, tdiv_neg1, tmod_neg1, m1, m2, m3] at h0 h1
  first | omega | (try simp only [not_true_eq_false] at *)
theorem o40 (a1 : 0 ≤ env 1) (b1 : env 1 ≤ 18446744073709551615) (a2 : 0 ≤ env 2) (b2 : env 2 ≤ 18446744073709551615) (h0 : e82.den env = false) : False := by
  have m1 : env 1 % 18446744073709551616 = env 1 := by omega
  have m2 : env 2 % 18446744073709551616 = env 2 := by omega
  have m3 : (env 1).tmod (env 2) % 18446744073709551616 = (env 1).tmod (env 2) := by have := small a1 a2; omega
  simp only [e82, IE.den, den_iff, BE.P, Bool.not_true, Bool.not_false, Int.ofNat_eq_natCast, den_and, den_tmod, s_i64, n32, n64, cut32, cut0, sgn32, sgn0, t32, t64, neg1, negA, negB] at h0
  try simp only [den_add, den_sub, den_mul, den_tdiv, den_tmod, den_and, den_or, den_xor, and_low, and_31, and_63, and_lt, or_lt, xor_lt, shr_lt a1 b1, wrap_u32, wrap_u64, wrap_i32, wrap_i64, tdiv_neg1, tmod_neg1, m1, m2, m3] at h0
  first | omega | (try simp only [not_true_eq_false] at *)
theorem o41 (a1 : 0 ≤ env 1) (b1 : env 1 ≤ 18446744073709551615) (a2 : 0 ≤ env 2) (b2 : env 2 ≤ 18446744073709551615) (h0 : e84.den env = false) : False := by
  have m1 : env 1 % 18446744073709551616 = env 1 := by omega
  have m2 : env 2 % 18446744073709551616 = env 2 := by omega
  have m3 : (env 1).tmod (env 2) % 18446744073709551616 = (env 1).tmod (env 2) := by have := small a1 a2; omega
  simp only [e84, IE.den, den_iff, BE.P, Bool.not_true, Bool.not_false, Int.ofNat_eq_natCast, den_and, den_tmod, s_i64, n32, n64, cut32, cut0, sgn32, sgn0, t32, t64, neg1, negA, negB] at h0
  try simp only [den_add, den_sub, den_mul, den_tdiv, den_tmod, den_and, den_or, den_xor, and_low, and_31, and_63, and_lt, or_lt, xor_lt, shr_lt a1 b1, wrap_u32, wrap_u64, wrap_i32, wrap_i64, tdiv_neg1, tmod_neg1, m1, m2, m3] at h0
  first | omega | (try simp only [not_true_eq_false] at *)
theorem o42 (a1 : 0 ≤ env 1) (b1 : env 1 ≤ 18446744073709551615) (a2 : 0 ≤ env 2) (b2 : env 2 ≤ 18446744073709551615) (h0 : e86.den env = false) : False := by
  have m1 : env 1 % 18446744073709551616 = env 1 := by omega
  have m2 : env 2 % 18446744073709551616 = env 2 := by omega
  have m3 : (env 1).tmod (env 2) % 18446744073709551616 = (env 1).tmod (env 2) := by have := small a1 a2; omega
  simp only [e86, IE.den, den_iff, BE.P, Bool.not_true, Bool.not_false, Int.ofNat_eq_natCast, den_and, den_tmod, s_i64, n32, n64, cut32, cut0, sgn32, sgn0, t32, t64, neg1, negA, negB] at h0
  try simp only [den_add, den_sub, den_mul, den_tdiv, den_tmod, den_and, den_or, den_xor, and_low, and_31, and_63, and_lt, or_lt, xor_lt, shr_lt a1 b1, wrap_u32, wrap_u64, wrap_i32, wrap_i64, tdiv_neg1, tmod_neg1, m1, m2, m3] at h0
  first | omega | (try simp only [not_true_eq_false] at *)
theorem o43 (a1 : 0 ≤ env 1) (b1 : env 1 ≤ 18446744073709551615) (a2 : 0 ≤ env 2) (b2 : env 2 ≤ 18446744073709551615) (h0 : e88.den env = true) (h1 : e89.den env = true) (h2 : e90.den env = false) (h3 : e91.den env = true) (h4 : e92.den env = false) (h5 : e93.den env = true) : False := by
  have m1 : env 1 % 18446744073709551616 = env 1 := by omega
  have m2 : env 2 % 18446744073709551616 = env 2 := by omega
  have m3 : (env 1).tmod (env 2) % 18446744073709551616 = (env 1).tmod (env 2) := by have := small a1 a2; omega
  simp only [e88, e89, e90, e91, e92, e93, IE.den, den_iff, BE.P, Bool.not_true, Bool.not_false, Int.ofNat_eq_natCast, den_and, den_tmod, s_i64, n32, n64, cut32, cut0, sgn32, sgn0, t32, t64, neg1, negA, negB] at h0 h1 h2 h3 h4 h5
  try simp only [den_add, den_sub, den_mul, den_tdiv, den_tmod, den_and, den_or, den_xor, and_low, and_31, and_63, and_lt, or_lt, xor_lt, shr_lt a1 b1, wrap_u32, wrap_u64, wrap_i32, wrap_i64, tdiv_neg1, tmod_neg1, m1, m2, m3] at h0 h1 h2 h3 h4 h5
  first | omega | (try simp only [not_true_eq_false] at *)
theorem o44 (a1 : 0 ≤ env 1) (b1 : env 1 ≤ 18446744073709551615) (a2 : 0 ≤ env 2) (b2 : env 2 ≤ 18446744073709551615) (h0 : e88.den env = true) (h1 : e89.den env = true) (h2 : e90.den env = false) (h3 : e91.den env = true) (h4 : e92.den env = false) (h5 : e93.den env = false) : False := by
  have m1 : env 1 % 18446744073709551616 = env 1 := by omega
  have m2 : env 2 % 18446744073709551616 = env 2 := by omega
  have m3 : (env 1).tmod (env 2) % 18446744073709551616 = (env 1).tmod (env 2) := by have := small a1 a2; omega
  simp only [e88, e89, e90, e91, e92, e93, IE.den, den_iff, BE.P, Bool.not_true, Bool.not_false, Int.ofNat_eq_natCast, den_and, den_tmod, s_i64, n32, n64, cut32, cut0, sgn32, sgn0, t32, t64, neg1, negA, negB] at h0 h1 h2 h3 h4 h5
  try simp only [den_add, den_sub, den_mul, den_tdiv, den_tmod, den_and, den_or, den_xor, and_low, and_31, and_63, and_lt, or_lt, xor_lt, shr_lt a1 b1, wrap_u32, wrap_u64, wrap_i32, wrap_i64, tdiv_neg1, tmod_neg1, m1, m2, m3] at h0 h1 h2 h3 h4 h5
  first | omega | (try simp only [not_true_eq_false] at *)
theorem o45 (a1 : 0 ≤ env 1) (b1 : env 1 ≤ 18446744073709551615) (a2 : 0 ≤ env 2) (b2 : env 2 ≤ 18446744073709551615) (h0 : e88.den env = true) (h1 : e89.den env = true) (h2 : e90.den env = false) (h3 : e91.den env = false) (h4 : e94.den env = true) : False := by
  have m1 : env 1 % 18446744073709551616 = env 1 := by omega
  have m2 : env 2 % 18446744073709551616 = env 2 := by omega
  have m3 : (env 1).tmod (env 2) % 18446744073709551616 = (env 1).tmod (env 2) := by have := small a1 a2; omega
  simp only [e88, e89, e90, e91, e94, IE.den, den_iff, BE.P, Bool.not_true, Bool.not_false, Int.ofNat_eq_natCast, den_and, den_tmod, s_i64, n32, n64, cut32, cut0, sgn32, sgn0, t32, t64, neg1, negA, negB] at h0 h1 h2 h3 h4
  try simp only [den_add, den_sub, den_mul, den_tdiv, den_tmod, den_and, den_or, den_xor, and_low, and_31, and_63, and_lt, or_lt, xor_lt, shr_lt a1 b1, wrap_u32, wrap_u64, wrap_i32, wrap_i64, tdiv_neg1, tmod_neg1, m1, m2, m3] at h0 h1 h2 h3 h4
  first | omega | (try simp only [not_true_eq_false] at *)
theorem o46 (a1 : 0 ≤ env 1) (b1 : env 1 ≤ 18446744073709551615) (a2 : 0 ≤ env 2) (b2 : env 2 ≤ 18446744073709551615) (h0 : e88.den env = true) (h1 : e89.den env = true) (h2 : e90.den env = false) (h3 : e91.den env = false) (h4 : e94.den env = false) (h5 : e95.den env = true) : False := by
  have m1 : env 1 % 18446744073709551616 = env 1 := by omega
  have m2 : env 2 % 18446744073709551616 = env 2 := by omega
  have m3 : (env 1).tmod (env 2) % 18446744073709551616 = (env 1).tmod (env 2) := by have := small a1 a2; omega
  simp only [e88, e89, e90, e91, e94, e95, IE.den, den_iff, BE.P, Bool.not_true, Bool.not_false, Int.ofNat_eq_natCast, den_and, den_tmod, s_i64, n32, n64, cut32, cut0, sgn32, sgn0, t32, t64, neg1, negA, negB] at h0 h1 h2 h3 h4 h5
  try simp only [den_add, den_sub, den_mul, den_tdiv, den_tmod, den_and, den_or, den_xor, and_low, and_31, and_63, and_lt, or_lt, xor_lt, shr_lt a1 b1, wrap_u32, wrap_u64, wrap_i32, wrap_i64, tdiv_neg1, tmod_neg1, m1, m2, m3] at h0 h1 h2 h3 h4 h5
  first | omega | (try simp only [not_true_eq_false] at *)
theorem o47 (a1 : 0 ≤ env 1) (b1 : env 1 ≤ 18446744073709551615) (a2 : 0 ≤ env 2) (b2 : env 2 ≤ 18446744073709551615) (h0 : e88.den env = true) (h1 : e89.den env = true) (h2 : e90.den env = false) (h3 : e91.den env = false) (h4 : e94.den env = false) (h5 : e95.den env = false) : False := by
  have m1 : env 1 % 18446744073709551616 = env 1 := by omega
  have m2 : env 2 % 18446744073709551616 = env 2 := by omega
  have m3 : (env 1).tmod (env 2) % 18446744073709551616 = (env 1).tmod (env 2) := by have := small a1 a2; omega
  simp only [e88, e89, e90, e91, e94, e95, IE.den, den_iff, BE.P, Bool.not_true, Bool.not_false, Int.ofNat_eq_natCast, den_and, den_tmod, s_i64, n32, n64, cut32, cut0, sgn32, sgn0, t32, t64, neg1, negA, negB] at h0 h1 h2 h3 h4 h5
  try simp only [den_add, den_sub, den_mul, den_tdiv, den_tmod, den_and, den_or, den_xor, and_low, and_31, and_63, and_lt, or_lt, xor_lt, shr_lt a1 b1, wrap_u32, wrap_u64, wrap_i32, wrap_i64, tdiv_neg1, tmod_neg1, m1, m2, m3] at h0 h1 h2 h3 h4 h5
  first | omega | (try simp only [not_true_eq_false] at *)
theorem o48 (a1 : 0 ≤ env 1) (b1 : env 1 ≤ 18446744073709551615) (a2 : 0 ≤ env 2) (b2 : env 2 ≤ 18446744073709551615) (h0 : e88.den env = true) (h1 : e89.den env = false) (h2 : e96.den env = true) (h3 : e90.den env = false) (h4 : e91.den env = true) (h5 : e92.den env = false) (h6 : e93.den env = true) : False := by
  have m1 : env 1 % 18446744073709551616 = env 1 := by omega
  have m2 : env 2 % 18446744073709551616 = env 2 := by omega
  have m3 : (env 1).tmod (env 2) % 18446744073709551616 = (env 1).tmod (env 2) := by have := small a1 a2; omega
  simp only [e88, e89, e96, e90, e91, e92, e93, IE.den, den_iff, BE.P, Bool.not_true, Bool.not_false, Int.ofNat_eq_natCast, den_and, den_tmod, s_i64, n32, n64, cut32, cut0, sgn32, sgn0, t32, t64, neg1, negA, negB] at h0 h1 h2 h3 h4 h5 h6
  try simp only [den_add, den_sub, den_mul, den_tdiv, den_tmod, den_and, den_or, den_xor, and_low, and_31, and_63, and_lt, or_lt, xor_lt, shr_lt a1 b1, wrap_u32, wrap_u64, wrap_i32, wrap_i64, tdiv_neg1, tmod_neg1, m1, m2, m3] at h0 h1 h2 h3 h4 h5 h6
  first | omega | (try simp only [not_true_eq_false] at *)
theorem o49 (a1 : 0 ≤ env 1) (b1 : env 1 ≤ 18446744073709551615) (a2 : 0 ≤ env 2) (b2 : env 2 ≤ 18446744073709551615) (h0 : e88.den env = true) (h1 : e89.den env = false) (h2 : e96.den env = true) (h3 : e90.den env = false) (h4 : e91.den env = true) (h5 : e92.den env = false) (h6 : e93.den env = false) : False := by
  have m1 : env 1 % 18446744073709551616 = env 1 := by omega
  have m2 : env 2 % 18446744073709551616 = env 2 := by omega
  have m3 : (env 1).tmod (env 2) % 18446744073709551616 = (env 1).tmod (env 2) := by have := small a1 a2; omega
  simp only [e88, e89, e96, e90, e91, e92, e93, IE.den, den_iff, BE.P, Bool.not_true, Bool.not_false, Int.ofNat_eq_natCast, den_and, den_tmod, s_i64, n32, n64, cut32, cut0, sgn32, sgn0, t32, t64, neg1, negA, negB] at h0 h1 h2 h3 h4 h5 h6
  try simp only [den_add, den_sub, den_mul, den_tdiv, den_tmod, den_and, den_or, den_xor, and_low, and_31, and_63, and_lt, or_lt, xor_lt, shr_lt a1 b1, wrap_u32, wrap_u64, wrap_i32, wrap_i64, tdiv_neg1, tmod_neg1, m1, m2, m3] at h0 h1 h2 h3 h4 h5 h6
  first | omega | (try simp only [not_true_eq_false] at *)
theorem o50 (a1 : 0 ≤ env 1) (b1 : env 1 ≤ 18446744073709551615) (a2 : 0 ≤ env 2) (b2 : env 2 ≤ 18446744073709551615) (h0 : e88.den env = true) (h1 : e89.den env = false) (h2 : e96.den env = true) (h3 : e90.den env = false) (h4 : e91.den env = false) (h5 : e94.den env = true) : False := by
  have m1 : env 1 % 18446744073709551616 = env 1 := by omega
  have m2 : env 2 % 18446744073709551616 = env 2 := by omega
  have m3 : (env 1).tmod (env 2) % 18446744073709551616 = (env 1).tmod (env 2) := by have := small a1 a2; omega
  simp only [e88, e89, e96, e90, e91, e94, IE.den, den_iff, BE.P, Bool.not_true, Bool.not_false, Int.ofNat_eq_natCast, den_and, den_tmod, s_i64, n32, n64, cut32, cut0, sgn32, sgn0, t32, t64, neg1, negA, negB] at h0 h1 h2 h3 h4 h5
  try simp only [den_add, den_sub, den_mul, den_tdiv, den_tmod, den_and, den_or, den_xor, and_low, and_31, and_63, and_lt, or_lt, xor_lt, shr_lt a1 b1, wrap_u32, wrap_u64, wrap_i32, wrap_i64, tdiv_neg1, tmod_neg1, m1, m2, m3] at h0 h1 h2 h3 h4 h5
  first | omega | (try simp only [not_true_eq_false] at *)
theorem o51 (a1 : 0 ≤ env 1) (b1 : env 1 ≤ 18446744073709551615) (a2 : 0 ≤ env 2) (b2 : env 2 ≤ 18446744073709551615) (h0 : e88.den env = true) (h1 : e89.den env = false) (h2 : e96.den env = true) (h3 : e90.den env = false) (h4 : e91.den env = false) (h5 : e94.den env = false) (h6 : e95.den env = true) : False := by
  have m1 : env 1 % 18446744073709551616 = env 1 := by omega
  have m2 : env 2 % 18446744073709551616 = env 2 := by omega
  have m3 : (env 1).tmod (env 2) % 18446744073709551616 = (env 1).tmod (env 2) := by have := small a1 a2; omega
  simp only [e88, e89, e96, e90, e91, e94, e95, IE.den, den_iff, BE.P, Bool.not_true, Bool.not_false, Int.ofNat_eq_natCast, den_and, den_tmod, s_i64, n32, n64, cut32, cut0, sgn32, sgn0, t32, t64, neg1, negA, negB] at h0 h1 h2 h3 h4 h5 h6
  try simp only [den_add, den_sub, den_mul, den_tdiv, den_tmod, den_and, den_or, den_xor, and_low, and_31, and_63, and_lt, or_lt, xor_lt, shr_lt a1 b1, wrap_u32, wrap_u64, wrap_i32, wrap_i64, tdiv_neg1, tmod_neg1, m1, m2, m3] at h0 h1 h2 h3 h4 h5 h6
  first | omega | (try simp only [not_true_eq_false] at *)
theorem o52 (a1 : 0 ≤ env 1) (b1 : env 1 ≤ 18446744073709551615) (a2 : 0 ≤ env 2) (b2 : env 2 ≤ 18446744073709551615) (h0 : e88.den env = true) (h1 : e89.den env = false) (h2 : e96.den env = true) (h3 : e90.den env = false) (h4 : e91.den env = false) (h5 : e94.den env = false) (h6 : e95.den env = false) : False := by
  have m1 : env 1 % 18446744073709551616 = env 1 := by omega
  have m2 : env 2 % 18446744073709551616 = env 2 := by omega
  have m3 : (env 1).tmod (env 2) % 18446744073709551616 = (env 1).tmod (env 2) := by have := small a1 a2; omega
  simp only [e88, e89, e96, e90, e91, e94, e95, IE.den, den_iff, BE.P, Bool.not_true, Bool.not_false, Int.ofNat_eq_natCast, den_and, den_tmod, s_i64, n32, n64, cut32, cut0, sgn32, sgn0, t32, t64, neg1, negA, negB] at h0 h1 h2 h3 h4 h5 h6
  try simp only [den_add, den_sub, den_mul, den_tdiv, den_tmod, den_and, den_or, den_xor, and_low, and_31, and_63, and_lt, or_lt, xor_lt, shr_lt a1 b1, wrap_u32, wrap_u64, wrap_i32, wrap_i64, tdiv_neg1, tmod_neg1, m1, m2, m3] at h0 h1 h2 h3 h4 h5 h6
  first | omega | (try simp only [not_true_eq_false] at *)
theorem o53 (a1 : 0 ≤ env 1) (b1 : env 1 ≤ 18446744073709551615) (a2 : 0 ≤ env 2) (b2 : env 2 ≤ 18446744073709551615) (h0 : e88.den env = true) (h1 : e89.den env = false) (h2 : e96.den env = false) (h3 : e90.den env = true) (h4 : e97.den env = true) : False := by
  have m1 : env 1 % 18446744073709551616 = env 1 := by omega
  have m2 : env 2 % 18446744073709551616 = env 2 := by omega
  have m3 : (env 1).tmod (env 2) % 18446744073709551616 = (env 1).tmod (env 2) := by have := small a1 a2; omega
  simp only [e88, e89, e96, e90, e97, IE.den, den_iff, BE.P, Bool.not_true, Bool.not_false, Int.ofNat_eq_natCast, den_and, den_tmod, s_i64, n32, n64, cut32, cut0, sgn32, sgn0, t32, t64, neg1, negA, negB] at h0 h1 h2 h3 h4
  try simp only [den_add, den_sub, den_mul, den_tdiv, den_tmod, den_and, den_or, den_xor, and_low, and_31, and_63, and_lt, or_lt, xor_lt, shr_lt a1 b1, wrap_u32, wrap_u64, wrap_i32, wrap_i64, tdiv_neg1, tmod_neg1, m1, m2, m3] at h0 h1 h2 h3 h4
  first | omega | (try simp only [not_true_eq_false] at *)
theorem o54 (a1 : 0 ≤ env 1) (b1 : env 1 ≤ 18446744073709551615) (a2 : 0 ≤ env 2) (b2 : env 2 ≤ 18446744073709551615) (h0 : e88.den env = true) (h1 : e89.den env = false) (h2 : e96.den env = false) (h3 : e90.den env = true) (h4 : e97.den env = false) : False := by
  have m1 : env 1 % 18446744073709551616 = env 1 := by omega
  have m2 : env 2 % 18446744073709551616 = env 2 := by omega
  have m3 : (env 1).tmod (env 2) % 18446744073709551616 = (env 1).tmod (env 2) := by have := small a1 a2; omega
  simp only [e88, e89, e96, e90, e97, IE.den, den_iff, BE.P, Bool.not_true, Bool.not_false, Int.ofNat_eq_natCast, den_and, den_tmod, s_i64, n32, n64, cut32, cut0, sgn32, sgn0, t32, t64, neg1, negA, negB] at h0 h1 h2 h3 h4
  try simp only [den_add, den_sub, den_mul, den_tdiv, den_tmod, den_and, den_or, den_xor, and_low, and_31, and_63, and_lt, or_lt, xor_lt, shr_lt a1 b1, wrap_u32, wrap_u64, wrap_i32, wrap_i64, tdiv_neg1, tmod_neg1, m1, m2, m3] at h0 h1 h2 h3 h4
  first | omega | (try simp only [not_true_eq_false] at *)
theorem o55 (a1 : 0 ≤ env 1) (b1 : env 1 ≤ 18446744073709551615) (a2 : 0 ≤ env 2) (b2 : env 2 ≤ 18446744073709551615) (h0 : e88.den env = true) (h1 : e89.den env = false) (h2 : e96.den env = false) (h3 : e90.den env = false) (h4 : e91.den env = true) (h5 : e92.den env = true) (h6 : e97.den env = true) : False := by
  have m1 : env 1 % 18446744073709551616 = env 1 := by omega
  have m2 : env 2 % 18446744073709551616 = env 2 := by omega
  have m3 : (env 1).tmod (env 2) % 18446744073709551616 = (env 1).tmod (env 2) := by have := small a1 a2; omega
  simp only [e88, e89, e96, e90, e91, e92, e97, IE.den, den_iff, BE.P, Bool.not_true, Bool.not_false, Int.ofNat_eq_natCast, den_and, den_tmod, s_i64, n32, n64, cut32, cut0, sgn32, sgn0, t32, t64, neg1, negA, negB] at h0 h1 h2 h3 h4 h5 h6
  try simp only [den_add, den_sub, den_mul, den_tdiv, den_tmod, den_and, den_or, den_xor, and_low, and_31, and_63, and_lt, or_lt, xor_lt, shr_lt a1 b1, wrap_u32, wrap_u64, wrap_i32, wrap_i64, tdiv_neg1, tmod_neg1, m1, m2, m3] at h0 h1 h2 h3 h4 h5 h6
  first | omega | (try simp only [not_true_eq_false] at *)
theorem o56 (a1 : 0 ≤ env 1) (b1 : env 1 ≤ 18446744073709551615) (a2 : 0 ≤ env 2) (b2 : env 2 ≤ 18446744073709551615) (h0 : e88.den env = true) (h1 : e89.den env = false) (h2 : e96.den env = false) (h3 : e90.den env = false) (h4 : e91.den env = true) (h5 : e92.den env = true) (h6 : e97.den env = false) : False := by
  have m1 : env 1 % 18446744073709551616 = env 1 := by omega
  have m2 : env 2 % 18446744073709551616 = env 2 := by omega
  have m3 : (env 1).tmod (env 2) % 18446744073709551616 = (env 1).tmod (env 2) := by have := small a1 a2; omega
  simp only [e88, e89, e96, e90, e91, e92, e97, IE.den, den_iff, BE.P, Bool.not_true, Bool.not_false, Int.ofNat_eq_natCast, den_and, den_tmod, s_i64, n32, n64, cut32, cut0, sgn32, sgn0, t32, t64, neg1, negA, negB] at h0 h1 h2 h3 h4 h5 h6
  try simp only [den_add, den_sub, den_mul, den_tdiv, den_tmod, den_and, den_or, den_xor, and_low, and_31, and_63, and_lt, or_lt, xor_lt, shr_lt a1 b1, wrap_u32, wrap_u64, wrap_i32, wrap_i64, tdiv_neg1, tmod_neg1, m1, m2, m3] at h0 h1 h2 h3 h4 h5 h6
  first | omega | (try simp only [not_true_eq_false] at *)
theorem o57 (a1 : 0 ≤ env 1) (b1 : env 1 ≤ 18446744073709551615) (a2 : 0 ≤ env 2) (b2 : env 2 ≤ 18446744073709551615) (h0 : e88.den env = true) (h1 : e89.den env = false) (h2 : e96.den env = false) (h3 : e90.den env = false) (h4 : e91.den env = true) (h5 : e92.den env = false) (h6 : e98.den env = false) : False := by
  have m1 : env 1 % 18446744073709551616 = env 1 := by omega
  have m2 : env 2 % 18446744073709551616 = env 2 := by omega
  have m3 : (env 1).tmod (env 2) % 18446744073709551616 = (env 1).tmod (env 2) := by have := small a1 a2; omega
  simp only [e88, e89, e96, e90, e91, e92, e98, IE.den, den_iff, BE.P, Bool.not_true, Bool.not_false, Int.ofNat_eq_natCast, den_and, den_tmod, s_i64, n32, n64, cut32, cut0, sgn32, sgn0, t32, t64, neg1, negA, negB] at h0 h1 h2 h3 h4 h5 h6
  try simp only [den_add, den_sub, den_mul, den_tdiv, den_tmod, den_and, den_or, den_xor, and_low, and_31, and_63, and_lt, or_lt, xor_lt, shr_lt a1 b1, wrap_u32, wrap_u64, wrap_i32, wrap_i64, tdiv_neg1, tmod_neg1, m1, m2, m3] at h0 h1 h2 h3 h4 h5 h6
  first | omega | (try simp only [not_true_eq_false] at *)
theorem o58 (a1 : 0 ≤ env 1) (b1 : env 1 ≤ 18446744073709551615) (a2 : 0 ≤ env 2) (b2 : env 2 ≤ 18446744073709551615) (h0 : e88.den env = true) (h1 : e89.den env = false) (h2 : e96.den env = false) (h3 : e90.den env = false) (h4 : e91.den env = false) (h5 : e94.den env = true) : False := by
  have m1 : env 1 % 18446744073709551616 = env 1 := by omega
  have m2 : env 2 % 18446744073709551616 = env 2 := by omega
  have m3 : (env 1).tmod (env 2) % 18446744073709551616 = (env 1).tmod (env 2) := by have := small a1 a2; omega
  simp only [e88, e89, e96, e90, e91, e94, IE.den, den_iff, BE.P, Bool.not_true, Bool.not_false, Int.ofNat_eq_natCast, den_and, den_tmod, s_i64, n32, n64, cut32, cut0, sgn32, sgn0, t32, t64, neg1, negA, negB] at h0 h1 h2 h3 h4 h5
  try simp only [den_add, den_sub, den_mul, den_tdiv, den_tmod, den_and, den_or, den_xor, and_low, and_31, and_63, and_lt, or_lt, xor_lt, shr_lt a1 b1, wrap_u32, wrap_u64, wrap_i32, wrap_i64, tdiv_neg1, tmod_neg1, m1, m2, m3] at h0 h1 h2 h3 h4 h5
  first | omega | (try simp only [not_true_eq_false] at *)
theorem o59 (a1 : 0 ≤ env 1) (b1 : env 1 ≤ 18446744073709551615) (a2 : 0 ≤ env 2) (b2 : env 2 ≤ 18446744073709551615) (h0 : e88.den env = true) (h1 : e89.den env = false) (h2 : e96.den env = false) (h3 : e90.den env = false) (h4 : e91.den env = false) (h5 : e94.den env = false) (h6 : e99.den env = false) : False := by
  have m1 : env 1 % 18446744073709551616 = env 1 := by omega
  have m2 : env 2 % 18446744073709551616 = env 2 := by omega
  have m3 : (env 1).tmod (env 2) % 18446744073709551616 = (env 1).tmod (env 2) := by have := small a1 a2; omega
  simp only [e88, e89, e96, e90, e91, e94, e99, IE.den, den_iff, BE.P, Bool.not_true, Bool.not_false, Int.ofNat_eq_natCast, den_and, den_tmod, s_i64, n32, n64, cut32, cut0, sgn32, sgn0, t32, t64, neg1, negA, negB] at h0 h1 h2 h3 h4 h5 h6
  try simp only [den_add, den_sub, den_mul, den_tdiv, den_tmod, den_and, den_or, den_xor, and_low, and_31, and_63, and_lt, or_lt, xor_lt, shr_lt a1 b1, wrap_u32, wrap_u64, wrap_i32, wrap_i64, tdiv_neg1, tmod_neg1, m1, m2, m3] at h0 h1 h2 h3 h4 h5 h6
  first | omega | (try simp only [not_true_eq_false] at *)
theorem o60 (a1 : 0 ≤ env 1) (b1 : env 1 ≤ 18446744073709551615) (a2 : 0 ≤ env 2) (b2 : env 2 ≤ 18446744073709551615) (h0 : e88.den env = false) (h1 : e89.den env = true) (h2 : e90.den env = false) (h3 : e91.den env = true) (h4 : e92.den env = false) (h5 : e93.den env = true) : False := by
  have m1 : env 1 % 18446744073709551616 = env 1 := by omega
  have m2 : env 2 % 18446744073709551616 = env 2 := by omega
  have m3 : (env 1).tmod (env 2) % 18446744073709551616 = (env 1).tmod (env 2) := by have := small a1 a2; omega
  simp only [e88, e89, e90, e91, e92, e93, IE.den, den_iff, BE.P, Bool.not_true, Bool.not_false, Int.ofNat_eq_natCast, den_and, den_tmod, s_i64, n32, n64, cut32, cut0, sgn32, sgn0, t32, t64, neg1, negA, negB] at h0 h1 h2 h3 h4 h5
  try simp only [den_add, den_sub, den_mul, den_tdiv, den_tmod, den_and, den_or, den_xor, and_low, and_31, and_63, and_lt, or_lt, xor_lt, shr_lt a1 b1, wrap_u32, wrap_u64, wrap_i32, wrap_i64, tdiv_neg1, tmod_neg1, m1, m2, m3] at h0 h1 h2 h3 h4 h5
  first | omega | (try simp only [not_true_eq_false] at *)
theorem o61 (a1 : 0 ≤ env 1) (b1 : env 1 ≤ 18446744073709551615) (a2 : 0 ≤ env 2) (b2 : env 2 ≤ 18446744073709551615) (h0 : e88.den env = false) (h1 : e89.den env = true) (h2 : e90.den env = false) (h3 : e91.den env = true) (h4 : e92.den env = false) (h5 : e93.den env = false) : False := by
  have m1 : env 1 % 18446744073709551616 = env 1 := by omega
  have m2 : env 2 % 18446744073709551616 = env 2 := by omega
  have m3 : (env 1).tmod (env 2) % 18446744073709551616 = (env 1).tmod (env 2) := by have := small a1 a2; omega
  simp only [e88, e89, e90, e91, e92, e93, IE.den, den_iff, BE.P, Bool.not_true, Bool.not_false, Int.ofNat_eq_natCast, den_and, den_tmod, s_i64, n32, n64, cut32, cut0, sgn32, sgn0, t32, t64, neg1, negA, negB] at h0 h1 h2 h3 h4 h5
  try simp only [den_add, den_sub, den_mul, den_tdiv, den_tmod, den_and, den_or, den_xor, and_low, and_31, and_63, and_lt, or_lt, xor_lt, shr_lt a1 b1, wrap_u32, wrap_u64, wrap_i32, wrap_i64, tdiv_neg1, tmod_neg1, m1, m2, m3] at h0 h1 h2 h3 h4 h5
  first | omega | (try simp only [not_true_eq_false] at *)
theorem o62 (a1 : 0 ≤ env 1) (b1 : env 1 ≤ 18446744073709551615) (a2 : 0 ≤ env 2) (b2 : env 2 ≤ 18446744073709551615) (h0 : e88.den env = false) (h1 : e89.den env = true) (h2 : e90.den env = false) (h3 : e91.den env = false) (h4 : e94.den env = true) : False := by
  have m1 : env 1 % 18446744073709551616 = env 1 := by omega
  have m2 : env 2 % 18446744073709551616 = env 2 := by omega
  have m3 : (env 1).tmod (env 2) % 18446744073709551616 = (env 1).tmod (env 2) := by have := small a1 a2; omega
  simp only [e88, e89, e90, e91, e94, IE.den, den_iff, BE.P, Bool.not_true, Bool.not_false, Int.ofNat_eq_natCast, den_and, den_tmod, s_i64, n32, n64, cut32, cut0, sgn32, sgn0, t32, t64, neg1, negA, negB] at h0 h1 h2 h3 h4
  try simp only [den_add, den_sub, den_mul, den_tdiv, den_tmod, den_and, den_or, den_xor, and_low, and_31, and_63, and_lt, or_lt, xor_lt, shr_lt a1 b1, wrap_u32, wrap_u64, wrap_i32, wrap_i64, tdiv_neg1, tmod_neg1, m1, m2, m3] at h0 h1 h2 h3 h4
  first | omega | (try simp only [not_true_eq_false] at *)
theorem o63 (a1 : 0 ≤ env 1) (b1 : env 1 ≤ 18446744073709551615) (a2 : 0 ≤ env 2) (b2 : env 2 ≤ 18446744073709551615) (h0 : e88.den env = false) (h1 : e89.den env = true) (h2 : e90.den env = false) (h3 : e91.den env = false) (h4 : e94.den env = false) (h5 : e95.den env = true) : False := by
  have m1 : env 1 % 18446744073709551616 = env 1 := by omega
  have m2 : env 2 % 18446744073709551616 = env 2 := by omega
  have m3 : (env 1).tmod (env 2) % 18446744073709551616 = (env 1).tmod (env 2) := by have := small a1 a2; omega
  simp only [e88, e89, e90, e91, e94, e95, IE.den, den_iff, BE.P, Bool.not_true, Bool.not_false, Int.ofNat_eq_natCast, den_and, den_tmod, s_i64, n32, n64, cut32, cut0, sgn32, sgn0, t32, t64, neg1, negA, negB] at h0 h1 h2 h3 h4 h5
  try simp only [den_add, den_sub, den_mul, den_tdiv, den_tmod, den_and, den_or, den_xor, and_low, and_31, and_63, and_lt, or_lt, xor_lt, shr_lt a1 b1, wrap_u32, wrap_u64, wrap_i32, wrap_i64, tdiv_neg1, tmod_neg1, m1, m2, m3] at h0 h1 h2 h3 h4 h5
  first | omega | (try simp only [not_true_eq_false] at *)
theorem o64 (a1 : 0 ≤ env 1) (b1 : env 1 ≤ 18446744073709551615) (a2 : 0 ≤ env 2) (b2 : env 2 ≤ 18446744073709551615) (h0 : e88.den env = false) (h1 : e89.den env = true) (h2 : e90.den env = false) (h3 : e91.den env = false) (h4 : e94.den env = false) (h5 : e95.den env = false) : False := by
  have m1 : env 1 % 18446744073709551616 = env 1 := by omega
  have m2 : env 2 % 18446744073709551616 = env 2 := by omega
  have m3 : (env 1).tmod (env 2) % 18446744073709551616 = (env 1).tmod (env 2) := by have := small a1 a2; omega
  simp only [e88, e89, e90, e91, e94, e95, IE.den, den_iff, BE.P, Bool.not_true, Bool.not_false, Int.ofNat_eq_natCast, den_and, den_tmod, s_i64, n32, n64, cut32, cut0, sgn32, sgn0, t32, t64, neg1, negA, negB] at h0 h1 h2 h3 h4 h5
  try simp only [den_add, den_sub, den_mul, den_tdiv, den_tmod, den_and, den_or, den_xor, and_low, and_31, and_63, and_lt, or_lt, xor_lt, shr_lt a1 b1, wrap_u32, wrap_u64, wrap_i32, wrap_i64, tdiv_neg1, tmod_neg1, m1, m2, m3] at h0 h1 h2 h3 h4 h5
  first | omega | (try simp only [not_true_eq_false] at *)
theorem o65 (a1 : 0 ≤ env 1) (b1 : env 1 ≤ 18446744073709551615) (a2 : 0 ≤ env 2) (b2 : env 2 ≤ 18446744073709551615) (h0 : e88.den env = false) (h1 : e89.den env = false) (h2 : e100.den env = true) : False := by
  have m1 : env 1 % 18446744073709551616 = env 1 := by omega
  have m2 : env 2 % 18446744073709551616 = env 2 := by omega
  have m3 : (env 1).tmod (env 2) % 18446744073709551616 = (env 1).tmod (env 2) := by have := small a1 a2; omega
  simp only [e88, e89, e100, IE.den, den_iff, BE.P, Bool.not_true, Bool.not_false, Int.ofNat_eq_natCast, den_and, den_tmod, s_i64, n32, n64, cut32, cut0, sgn32, sgn0, t32, t64, neg1, negA, negB] at h0 h1 h2
  try simp only [den_add, den_sub, den_mul, den_tdiv, den_tmod, den_and, den_or, den_xor, and_low, and_31, and_63, and_lt, or_lt, xor_lt, shr_lt a1 b1, wrap_u32, wrap_u64, wrap_i32, wrap_i64, tdiv_neg1, tmod_neg1, m1, m2, m3] at h0 h1 h2
  first | omega | (try simp only [not_true_eq_false] at *)
theorem o66 (a1 : 0 ≤ env 1) (b1 : env 1 ≤ 18446744073709551615) (a2 : 0 ≤ env 2) (b2 : env 2 ≤ 18446744073709551615) (h0 : e88.den env = false) (h1 : e89.den env = false) (h2 : e100.den env = false) (h3 : e90.den env = true) (h4 : e101.den env = true) : False := by
  have m1 : env 1 % 18446744073709551616 = env 1 := by omega
  have m2 : env 2 % 18446744073709551616 = env 2 := by omega
  have m3 : (env 1).tmod (env 2) % 18446744073709551616 = (env 1).tmod (env 2) := by have := small a1 a2; omega
  simp only [e88, e89, e100, e90, e101, IE.den, den_iff, BE.P, Bool.not_true, Bool.not_false, Int.ofNat_eq_natCast, den_and, den_tmod, s_i64, n32, n64, cut32, cut0, sgn32, sgn0, t32, t64, neg1, negA, negB] at h0 h1 h2 h3 h4
  try simp only [den_add, den_sub, den_mul, den_tdiv, den_tmod, den_and, den_or, den_xor, and_low, and_31, and_63, and_lt, or_lt, xor_lt, shr_lt a1 b1, wrap_u32, wrap_u64, wrap_i32, wrap_i64, tdiv_neg1, tmod_neg1, m1, m2, m3] at h0 h1 h2 h3 h4
  first | omega | (try simp only [not_true_eq_false] at *)
theorem o67 (a1 : 0 ≤ env 1) (b1 : env 1 ≤ 18446744073709551615) (a2 : 0 ≤ env 2) (b2 : env 2 ≤ 18446744073709551615) (h0 : e88.den env = false) (h1 : e89.den env = false) (h2 : e100.den env = false) (h3 : e90.den env = true) (h4 : e101.den env = false) : False := by
  have m1 : env 1 % 18446744073709551616 = env 1 := by omega
  have m2 : env 2 % 18446744073709551616 = env 2 := by omega
  have m3 : (env 1).tmod (env 2) % 18446744073709551616 = (env 1).tmod (env 2) := by have := small a1 a2; omega
  simp only [e88, e89, e100, e90, e101, IE.den, den_iff, BE.P, Bool.not_true, Bool.not_false, Int.ofNat_eq_natCast, den_and, den_tmod, s_i64, n32, n64, cut32, cut0, sgn32, sgn0, t32, t64, neg1, negA, negB] at h0 h1 h2 h3 h4
  try simp only [den_add, den_sub, den_mul, den_tdiv, den_tmod, den_and, den_or, den_xor, and_low, and_31, and_63, and_lt, or_lt, xor_lt, shr_lt a1 b1, wrap_u32, wrap_u64, wrap_i32, wrap_i64, tdiv_neg1, tmod_neg1, m1, m2, m3] at h0 h1 h2 h3 h4
  first | omega | (try simp only [not_true_eq_false] at *)
theorem o68 (a1 : 0 ≤ env 1) (b1 : env 1 ≤ 18446744073709551615) (a2 : 0 ≤ env 2) (b2 : env 2 ≤ 18446744073709551615) (h0 : e88.den env = false) (h1 : e89.den env = false) (h2 : e100.den env = false) (h3 : e90.den env = false) (h4 : e91.den env = true) (h5 : e92.den env = true) (h6 : e101.den env = true) : False := by
  have m1 : env 1 % 18446744073709551616 = env 1 := by omega
  have m2 : env 2 % 18446744073709551616 = env 2 := by omega
  have m3 : (env 1).tmod (env 2) % 18446744073709551616 = (env 1).tmod (env 2) := by have := small a1 a2; omega
  simp only [e88, e89, e100, e90, e91, e92, e101, IE.den, den_iff, BE.P, Bool.not_true, Bool.not_false, Int.ofNat_eq_natCast, den_and, den_tmod, s_i64, n32, n64, cut32, cut0, sgn32, sgn0, t32, t64, neg1, negA, negB] at h0 h1 h2 h3 h4 h5 h6
  try simp only [den_add, den_sub, den_mul, den_tdiv, den_tmod, den_and, den_or, den_xor, and_low, and_31, and_63, and_lt, or_lt, xor_lt, shr_lt a1 b1, wrap_u32, wrap_u64, wrap_i32, wrap_i64, tdiv_neg1, tmod_neg1, m1, m2, m3] at h0 h1 h2 h3 h4 h5 h6
  first | omega | (try simp only [not_true_eq_false] at *)
theorem o69 (a1 : 0 ≤ env 1) (b1 : env 1 ≤ 18446744073709551615) (a2 : 0 ≤ env 2) (b2 : env 2 ≤ 18446744073709551615) (h0 : e88.den env = false) (h1 : e89.den env = false) (h2 : e100.den env = false) (h3 : e90.den env = false) (h4 : e91.den env = true) (h5 : e92.den env = true) (h6 : e101.den env = false) : False := by
  have m1 : env 1 % 18446744073709551616 = env 1 := by omega
  have m2 : env 2 % 18446744073709551616 = env 2 := by omega
  have m3 : (env 1).tmod (env 2) % 18446744073709551616 = (env 1).tmod (env 2) := by have := small a1 a2; omega
  simp only [e88, e89, e100, e90, e91, e92, e101, IE.den, den_iff, BE.P, Bool.not_true, Bool.not_false, Int.ofNat_eq_natCast, den_and, den_tmod, s_i64, n32, n64, cut32, cut0, sgn32, sgn0, t32, t64, neg1, negA, negB] at h0 h1 h2 h3 h4 h5 h6
  try simp only [den_add, den_sub, den_mul, den_tdiv, den_tmod, den_and, den_or, den_xor, and_low, and_31, and_63, and_lt, or_lt, xor_lt, shr_lt a1 b1, wrap_u32, wrap_u64, wrap_i32, wrap_i64, tdiv_neg1, tmod_neg1, m1, m2, m3] at h0 h1 h2 h3 h4 h5 h6
  first | omega | (try simp only [not_true_eq_false] at *)
theorem o70 (a1 : 0 ≤ env 1) (b1 : env 1 ≤ 18446744073709551615) (a2 : 0 ≤ env 2) (b2 : env 2 ≤ 18446744073709551615) (h0 : e88.den env = false) (h1 : e89.den env = false) (h2 : e100.den env = false) (h3 : e90.den env = false) (h4 : e91.den env = true) (h5 : e92.den env = false) (h6 : e102.den env = false) : False := by
  have m1 : env 1 % 18446744073709551616 = env 1 := by omega
  have m2 : env 2 % 18446744073709551616 = env 2 := by omega
  have m3 : (env 1).tmod (env 2) % 18446744073709551616 = (env 1).tmod (env 2) := by have := small a1 a2; omega
  simp only [e88, e89, e100, e90, e91, e92, e102, IE.den, den_iff, BE.P, Bool.not_true, Bool.not_false, Int.ofNat_eq_natCast, den_and, den_tmod, s_i64, n32, n64, cut32, cut0, sgn32, sgn0, t32, t64, neg1, negA, negB] at h0 h1 h2 h3 h4 h5 h6
  try simp only [den_add, den_sub, den_mul, den_tdiv, den_tmod, den_and, den_or, den_xor, and_low, and_31, and_63, and_lt, or_lt, xor_lt, shr_lt a1 b1, wrap_u32, wrap_u64, wrap_i32, wrap_i64, tdiv_neg1, tmod_neg1, m1, m2, m3] at h0 h1 h2 h3 h4 h5 h6
  first | omega | (try simp only [not_true_eq_false] at *)
theorem o71 (a1 : 0 ≤ env 1) (b1 : env 1 ≤ 18446744073709551615) (a2 : 0 ≤ env 2) (b2 : env 2 ≤ 18446744073709551615) (h0 : e88.den env = false) (h1 : e89.den env = false) (h2 : e100.den env = false) (h3 : e90.den env = false) (h4 : e91.den env = false) (h5 : e94.den env = true) : False := by
  have m1 : env 1 % 18446744073709551616 = env 1 := by omega
  have m2 : env 2 % 18446744073709551616 = env 2 := by omega
  have m3 : (env 1).tmod (env 2) % 18446744073709551616 = (env 1).tmod (env 2) := by have := small a1 a2; omega
  simp only [e88, e89, e100, e90, e91, e94, IE.den, den_iff, BE.P, Bool.not_true, Bool.not_false, Int.ofNat_eq_natCast, den_and, den_tmod, s_i64, n32, n64, cut32, cut0, sgn32, sgn0, t32, t64, neg1, negA, negB] at h0 h1 h2 h3 h4 h5
  try simp only [den_add, den_sub, den_mul, den_tdiv, den_tmod, den_and, den_or, den_xor, and_low, and_31, and_63, and_lt, or_lt, xor_lt, shr_lt a1 b1, wrap_u32, wrap_u64, wrap_i32, wrap_i64, tdiv_neg1, tmod_neg1, m1, m2, m3] at h0 h1 h2 h3 h4 h5
  first | omega | (try simp only [not_true_eq_false] at *)
theorem o72 (a1 : 0 ≤ env 1) (b1 : env 1 ≤ 18446744073709551615) (a2 : 0 ≤ env 2) (b2 : env 2 ≤ 18446744073709551615) (h0 : e88.den env = false) (h1 : e89.den env = false) (h2 : e100.den env = false) (h3 : e90.den env = false) (h4 : e91.den env = false) (h5 : e94.den env = false) (h6 : e103.den env = false) : False := by
  have m1 : env 1 % 18446744073709551616 = env 1 := by omega
  have m2 : env 2 % 18446744073709551616 = env 2 := by omega
  have m3 : (env 1).tmod (env 2) % 18446744073709551616 = (env 1).tmod (env 2) := by have := small a1 a2; omega
  simp only [e88, e89, e100, e90, e91, e94, e103, IE.den, den_iff, BE.P, Bool.not_true, Bool.not_false, Int.ofNat_eq_natCast, den_and, den_tmod, s_i64, n32, n64, cut32, cut0, sgn32, sgn0, t32, t64, neg1, negA, negB] at h0 h1 h2 h3 h4 h5 h6
  try simp only [den_add, den_sub, den_mul, den_tdiv, den_tmod, den_and, den_or, den_xor, and_low, and_31, and_63, and_lt, or_lt, xor_lt, shr_lt a1 b1, wrap_u32, wrap_u64, wrap_i32, wrap_i64, tdiv_neg1, tmod_neg1, m1, m2, m3] at h0 h1 h2 h3 h4 h5 h6
  first | omega | (try simp only [not_true_eq_false] at *)
theorem o73 (a1 : 0 ≤ env 1) (b1 : env 1 ≤ 18446744073709551615) (a2 : 0 ≤ env 2) (b2 : env 2 ≤ 18446744073709551615) (h0 : e88.den env = true) (h1 : e89.den env = true) (h2 : e90.den env = false) (h3 : e105.den env = true) : False := by
  have m1 : env 1 % 18446744073709551616 = env 1 := by omega
  have m2 : env 2 % 18446744073709551616 = env 2 := by omega
  have m3 : (env 1).tmod (env 2) % 18446744073709551616 = (env 1).tmod (env 2) := by have := small a1 a2; omega
  simp only [e88, e89, e90, e105, IE.den, den_iff, BE.P, Bool.not_true, Bool.not_false, Int.ofNat_eq_natCast, den_and, den_tmod, s_i64, n32, n64, cut32, cut0, sgn32, sgn0, t32, t64, neg1, negA, negB] at h0 h1 h2 h3
  try simp only [den_add, den_sub, den_mul, den_tdiv, den_tmod, den_and, den_or, den_xor, and_low, and_31, and_63, and_lt, or_lt, xor_lt, shr_lt a1 b1, wrap_u32, wrap_u64, wrap_i32, wrap_i64, tdiv_neg1, tmod_neg1, m1, m2, m3] at h0 h1 h2 h3
  first | omega | (try simp only [not_true_eq_false] at *)
theorem o74 (a1 : 0 ≤ env 1) (b1 : env 1 ≤ 18446744073709551615) (a2 : 0 ≤ env 2) (b2 : env 2 ≤ 18446744073709551615) (h0 : e88.den env = true) (h1 : e89.den env = true) (h2 : e90.den env = false) (h3 : e105.den env = false) : False := by
  have m1 : env 1 % 18446744073709551616 = env 1 := by omega
  have m2 : env 2 % 18446744073709551616 = env 2 := by omega
  have m3 : (env 1).tmod (env 2) % 18446744073709551616 = (env 1).tmod (env 2) := by have := small a1 a2; omega
  simp only [e88, e89, e90, e105, IE.den, den_iff, BE.P, Bool.not_true, Bool.not_false, Int.ofNat_eq_natCast, den_and, den_tmod, s_i64, n32, n64, cut32, cut0, sgn32, sgn0, t32, t64, neg1, negA, negB] at h0 h1 h2 h3
  try simp only [den_add, den_sub, den_mul, den_tdiv, den_tmod, den_and, den_or, den_xor, and_low, and_31, and_63, and_lt, or_lt, xor_lt, shr_lt a1 b1, wrap_u32, wrap_u64, wrap_i32, wrap_i64, tdiv_neg1, tmod_neg1, m1, m2, m3] at h0 h1 h2 h3
  first | omega | (try simp only [not_true_eq_false] at *)
theorem o75 (a1 : 0 ≤ env 1) (b1 : env 1 ≤ 18446744073709551615) (a2 : 0 ≤ env 2) (b2 : env 2 ≤ 18446744073709551615) (h0 : e88.den env = true) (h1 : e89.den env = false) (h2 : e90.den env = true) (h3 : e106.den env = true) : False := by
  have m1 : env 1 % 18446744073709551616 = env 1 := by omega
  have m2 : env 2 % 18446744073709551616 = env 2 := by omega
  have m3 : (env 1).tmod (env 2) % 18446744073709551616 = (env 1).tmod (env 2) := by have := small a1 a2; omega
  simp only [e88, e89, e90, e106, IE.den, den_iff, BE.P, Bool.not_true, Bool.not_false, Int.ofNat_eq_natCast, den_and, den_tmod, s_i64, n32, n64, cut32, cut0, sgn32, sgn0, t32, t64, neg1, negA, negB] at h0 h1 h2 h3
  try simp only [den_add, den_sub, den_mul, den_tdiv, den_tmod, den_and, den_or, den_xor, and_low, and_31, and_63, and_lt, or_lt, xor_lt, shr_lt a1 b1, wrap_u32, wrap_u64, wrap_i32, wrap_i64, tdiv_neg1, tmod_neg1, m1, m2, m3] at h0 h1 h2 h3
  first | omega | (try simp only [not_true_eq_false] at *)
theorem o76 (a1 : 0 ≤ env 1) (b1 : env 1 ≤ 18446744073709551615) (a2 : 0 ≤ env 2) (b2 : env 2 ≤ 18446744073709551615) (h0 : e88.den env = true) (h1 : e89.den env = false) (h2 : e90.den env = true) (h3 : e106.den env = false) : False := by
  have m1 : env 1 % 18446744073709551616 = env 1 := by omega
  have m2 : env 2 % 18446744073709551616 = env 2 := by omega
  have m3 : (env 1).tmod (env 2) % 18446744073709551616 = (env 1).tmod (env 2) := by have := small a1 a2; omega
  simp only [e88, e89, e90, e106, IE.den, den_iff, BE.P, Bool.not_true, Bool.not_false, Int.ofNat_eq_natCast, den_and, den_tmod, s_i64, n32, n64, cut32, cut0, sgn32, sgn0, t32, t64, neg1, negA, negB] at h0 h1 h2 h3
  try simp only [den_add, den_sub, den_mul, den_tdiv, den_tmod, den_and, den_or, den_xor, and_low, and_31, and_63, and_lt, or_lt, xor_lt, shr_lt a1 b1, wrap_u32, wrap_u64, wrap_i32, wrap_i64, tdiv_neg1, tmod_neg1, m1, m2, m3] at h0 h1 h2 h3
  first | omega | (try simp only [not_true_eq_false] at *)
theorem o77 (a1 : 0 ≤ env 1) (b1 : env 1 ≤ 18446744073709551615) (a2 : 0 ≤ env 2) (b2 : env 2 ≤ 18446744073709551615) (h0 : e88.den env = true) (h1 : e89.den env = false) (h2 : e90.den env = false) (h3 : e107.den env = false) : False := by
  have m1 : env 1 % 18446744073709551616 = env 1 := by omega
  have m2 : env 2 % 18446744073709551616 = env 2 := by omega
  have m3 : (env 1).tmod (env 2) % 18446744073709551616 = (env 1).tmod (env 2) := by have := small a1 a2; omega
  simp only [e88, e89, e90, e107, IE.den, den_iff, BE.P, Bool.not_true, Bool.not_false, Int.ofNat_eq_natCast, den_and, den_tmod, s_i64, n32, n64, cut32, cut0, sgn32, sgn0, t32, t64, neg1, negA, negB] at h0 h1 h2 h3
  try simp only [den_add, den_sub, den_mul, den_tdiv, den_tmod, den_and, den_or, den_xor, and_low, and_31, and_63, and_lt, or_lt, xor_lt, shr_lt a1 b1, wrap_u32, wrap_u64, wrap_i32, wrap_i64, tdiv_neg1, tmod_neg1, m1, m2, m3] at h0 h1 h2 h3
  first | omega | (try simp only [not_true_eq_false] at *)
theorem o78 (a1 : 0 ≤ env 1) (b1 : env 1 ≤ 18446744073709551615) (a2 : 0 ≤ env 2) (b2 : env 2 ≤ 18446744073709551615) (h0 : e88.den env = false) (h1 : e89.den env = true) (h2 : e90.den env = false) (h3 : e105.den env = true) : False := by
  have m1 : env 1 % 18446744073709551616 = env 1 := by omega
  have m2 : env 2 % 18446744073709551616 = env 2 := by omega
  have m3 : (env 1).tmod (env 2) % 18446744073709551616 = (env 1).tmod (env 2) := by have := small a1 a2; omega
  simp only [e88, e89, e90, e105, IE.den, den_iff, BE.P, Bool.not_true, Bool.not_false, Int.ofNat_eq_natCast, den_and, den_tmod, s_i64, n32, n64, cut32, cut0, sgn32, sgn0, t32, t64, neg1, negA, negB] at h0 h1 h2 h3
  try simp only [den_add, den_sub, den_mul, den_tdiv, den_tmod, den_and, den_or, den_xor, and_low, and_31, and_63, and_lt, or_lt, xor_lt, shr_lt a1 b1, wrap_u32, wrap_u64, wrap_i32, wrap_i64, tdiv_neg1, tmod_neg1, m1, m2, m3] at h0 h1 h2 h3
  first | omega | (try simp only [not_true_eq_false] at *)
theorem o79 (a1 : 0 ≤ env 1) (b1 : env 1 ≤ 18446744073709551615) (a2 : 0 ≤ env 2) (b2 : env 2 ≤ 18446744073709551615) (h0 : e88.den env = false) (h1 : e89.den env = true) (h2 : e90.den env = false) (h3 : e105.den env = false) : False := by
  have m1 : env 1 % 18446744073709551616 = env 1 := by omega
  have m2 : env 2 % 18446744073709551616 = env 2 := by omega
  have m3 : (env 1).tmod (env 2) % 18446744073709551616 = (env 1).tmod (env 2) := by have := small a1 a2; omega
  simp only [e88, e89, e90, e105, IE.den, den_iff, BE.P, Bool.not_true, Bool.not_false, Int.ofNat_eq_natCast, den_and, den_tmod, s_i64, n32, n64, cut32, cut0, sgn32, sgn0, t32, t64, neg1, negA, negB] at h0 h1 h2 h3
  try simp only [den_add, den_sub, den_mul, den_tdiv, den_tmod, den_and, den_or, den_xor, and_low, and_31, and_63, and_lt, or_lt, xor_lt, shr_lt a1 b1, wrap_u32, wrap_u64, wrap_i32, wrap_i64, tdiv_neg1, tmod_neg1, m1, m2, m3] at h0 h1 h2 h3
  first | omega | (try simp only [not_true_eq_false] at *)
theorem o80 (a1 : 0 ≤ env 1) (b1 : env 1 ≤ 18446744073709551615) (a2 : 0 ≤ env 2) (b2 : env 2 ≤ 18446744073709551615) (h0 : e88.den env = false) (h1 : e89.den env = false) (h2 : e90.den env = true) (h3 : e106.den env = true) : False := by
  have m1 : env 1 % 18446744073709551616 = env 1 := by omega
  have m2 : env 2 % 18446744073709551616 = env 2 := by omega
  have m3 : (env 1).tmod (env 2) % 18446744073709551616 = (env 1).tmod (env 2) := by have := small a1 a2; omega
  simp only [e88, e89, e90, e106, IE.den, den_iff, BE.P, Bool.not_true, Bool.not_false, Int.ofNat_eq_natCast, den_and, den_tmod, s_i64, n32, n64, cut32, cut0, sgn32, sgn0, t32, t64, neg1, negA, negB] at h0 h1 h2 h3
  try simp only [den_add, den_sub, den_mul, den_tdiv, den_tmod, den_and, den_or, den_xor, and_low, and_31, and_63, and_lt, or_lt, xor_lt, shr_lt a1 b1, wrap_u32, wrap_u64, wrap_i32, wrap_i64, tdiv_neg1, tmod_neg1, m1, m2, m3] at h0 h1 h2 h3
  first | omega | (try simp only [not_true_eq_false] at *)
theorem o81 (a1 : 0 ≤ env 1) (b1 : env 1 ≤ 18446744073709551615) (a2 : 0 ≤ env 2) (b2 : env 2 ≤ 18446744073709551615) (h0 : e88.den env = false) (h1 : e89.den env = false) (h2 : e90.den env = true) (h3 : e106.den env = false) : False := by
  have m1 : env 1 % 18446744073709551616 = env 1 := by omega
  have m2 : env 2 % 18446744073709551616 = env 2 := by omega
  have m3 : (env 1).tmod (env 2) % 18446744073709551616 = (env 1).tmod (env 2) := by have := small a1 a2; omega
  simp only [e88, e89, e90, e106, IE.den, den_iff, BE.P, Bool.not_true, Bool.not_false, Int.ofNat_eq_natCast, den_and, den_tmod, s_i64, n32, n64, cut32, cut0, sgn32, sgn0, t32, t64, neg1, negA, negB] at h0 h1 h2 h3
  try simp only [den_add, den_sub, den_mul, den_tdiv, den_tmod, den_and, den_or, den_xor, and_low, and_31, and_63, and_lt, or_lt, xor_lt, shr_lt a1 b1, wrap_u32, wrap_u64, wrap_i32, wrap_i64, tdiv_neg1, tmod_neg1, m1, m2, m3] at h0 h1 h2 h3
  first | omega | (try simp only [not_true_eq_false] at *)
theorem o82 (a1 : 0 ≤ env 1) (b1 : env 1 ≤ 18446744073709551615) (a2 : 0 ≤ env 2) (b2 : env 2 ≤ 18446744073709551615) (h0 : e88.den env = false) (h1 : e89.den env = false) (h2 : e90.den env = false) (h3 : e107.den env = false) : False := by
  have m1 : env 1 % 18446744073709551616 = env 1 := by omega
  have m2 : env 2 % 18446744073709551616 = env 2 := by omega
  have m3 : (env 1).tmod (env 2) % 18446744073709551616 = (env 1).tmod (env 2) := by have := small a1 a2; omega
  simp only [e88, e89, e90, e107, IE.den, den_iff, BE.P, Bool.not_true, Bool.not_false, Int.ofNat_eq_natCast, den_and, den_tmod, s_i64, n32, n64, cut32, cut0, sgn32, sgn0, t32, t64, neg1, negA, negB] at h0 h1 h2 h3
  try simp only [den_add, den_sub, den_mul, den_tdiv, den_tmod, den_and, den_or, den_xor, and_low, and_31, and_63, and_lt, or_lt, xor_lt, shr_lt a1 b1, wrap_u32, wrap_u64, wrap_i32, wrap_i64, tdiv_neg1, tmod_neg1, m1, m2, m3] at h0 h1 h2 h3
  first | omega | (try simp only [not_true_eq_false] at *)
theorem o83 (a1 : 0 ≤ env 1) (b1 : env 1 ≤ 18446744073709551615) (a2 : 0 ≤ env 2) (b2 : env 2 ≤ 18446744073709551615) (h0 : e88.den env = true) (h1 : e89.den env = true) (h2 : e90.den env = false) (h3 : e91.den env = true) : False := by
  have m1 : env 1 % 18446744073709551616 = env 1 := by omega
  have m2 : env 2 % 18446744073709551616 = env 2 := by omega
  have m3 : (env 1).tmod (env 2) % 18446744073709551616 = (env 1).tmod (env 2) := by have := small a1 a2; omega
  simp only [e88, e89, e90, e91, IE.den, den_iff, BE.P, Bool.not_true, Bool.not_false, Int.ofNat_eq_natCast, den_and, den_tmod, s_i64, n32, n64, cut32, cut0, sgn32, sgn0, t32, t64, neg1, negA, negB] at h0 h1 h2 h3
  try simp only [den_add, den_sub, den_mul, den_tdiv, den_tmod, den_and, den_or, den_xor, and_low, and_31, and_63, and_lt, or_lt, xor_lt, shr_lt a1 b1, wrap_u32, wrap_u64, wrap_i32, wrap_i64, tdiv_neg1, tmod_neg1, m1, m2, m3] at h0 h1 h2 h3
  first | omega | (try simp only [not_true_eq_false] at *)
theorem o84 (a1 : 0 ≤ env 1) (b1 : env 1 ≤ 18446744073709551615) (a2 : 0 ≤ env 2) (b2 : env 2 ≤ 18446744073709551615) (h0 : e88.den env = true) (h1 : e89.den env = true) (h2 : e90.den env = false) (h3 : e91.den env = false) (h4 : e94.den env = false) (h5 : e109.den env = true) : False := by
  have m1 : env 1 % 18446744073709551616 = env 1 := by omega
  have m2 : env 2 % 18446744073709551616 = env 2 := by omega
  have m3 : (env 1).tmod (env 2) % 18446744073709551616 = (env 1).tmod (env 2) := by have := small a1 a2; omega
  simp only [e88, e89, e90, e91, e94, e109, IE.den, den_iff, BE.P, Bool.not_true, Bool.not_false, Int.ofNat_eq_natCast, den_and, den_tmod, s_i64, n32, n64, cut32, cut0, sgn32, sgn0, t32, t64, neg1, negA, negB] at h0 h1 h2 h3 h4 h5
  try simp only [den_add, den_sub, den_mul, den_tdiv, den_tmod, den_and, den_or, den_xor, and_low, and_31, and_63, and_lt, or_lt, xor_lt, shr_lt a1 b1, wrap_u32, wrap_u64, wrap_i32, wrap_i64, tdiv_neg1, tmod_neg1, m1, m2, m3] at h0 h1 h2 h3 h4 h5
  first | omega | (try simp only [not_true_eq_false] at *)
theorem o85 (a1 : 0 ≤ env 1) (b1 : env 1 ≤ 18446744073709551615) (a2 : 0 ≤ env 2) (b2 : env 2 ≤ 18446744073709551615) (h0 : e88.den env = true) (h1 : e89.den env = true) (h2 : e90.den env = false) (h3 : e91.den env = false) (h4 : e94.den env = false) (h5 : e109.den env = false) : False := by
  have m1 : env 1 % 18446744073709551616 = env 1 := by omega
  have m2 : env 2 % 18446744073709551616 = env 2 := by omega
  have m3 : (env 1).tmod (env 2) % 18446744073709551616 = (env 1).tmod (env 2) := by have := small a1 a2; omega
  simp only [e88, e89, e90, e91, e94, e109, IE.den, den_iff, BE.P, Bool.not_true, Bool.not_false, Int.ofNat_eq_natCast, den_and, den_tmod, s_i64, n32, n64, cut32, cut0, sgn32, sgn0, t32, t64, neg1, negA, negB] at h0 h1 h2 h3 h4 h5
  try simp only [den_add, den_sub, den_mul, den_tdiv, den_tmod, den_and, den_or, den_xor, and_low, and_31, and_63, and_lt, or_lt, xor_lt, shr_lt a1 b1, wrap_u32, wrap_u64, wrap_i32, wrap_i64, tdiv_neg1, tmod_neg1, m1, m2, m3] at h0 h1 h2 h3 h4 h5
  first | omega | (try simp only [not_true_eq_false] at *)
theorem o86 (a1 : 0 ≤ env 1) (b1 : env 1 ≤ 18446744073709551615) (a2 : 0 ≤ env 2) (b2 : env 2 ≤ 18446744073709551615) (h0 : e88.den env = true) (h1 : e89.den env = false) (h2 : e90.den env = true) : False := by
  have m1 : env 1 % 18446744073709551616 = env 1 := by omega
  have m2 : env 2 % 18446744073709551616 = env 2 := by omega
  have m3 : (env 1).tmod (env 2) % 18446744073709551616 = (env 1).tmod (env 2) := by have := small a1 a2; omega
  simp only [e88, e89, e90, IE.den, den_iff, BE.P, Bool.not_true, Bool.not_false, Int.ofNat_eq_natCast, den_and, den_tmod, s_i64, n32, n64, cut32, cut0, sgn32, sgn0, t32, t64, neg1, negA, negB] at h0 h1 h2
  try simp only [den_add, den_sub, den_mul, den_tdiv, den_tmod, den_and, den_or, den_xor, and_low, and_31, and_63, and_lt, or_lt, xor_lt, shr_lt a1 b1, wrap_u32, wrap_u64, wrap_i32, wrap_i64, tdiv_neg1, tmod_neg1, m1, m2, m3] at h0 h1 h2
  first | omega | (try simp only [not_true_eq_false] at *)
theorem o87 (a1 : 0 ≤ env 1) (b1 : env 1 ≤ 18446744073709551615) (a2 : 0 ≤ env 2) (b2 : env 2 ≤ 18446744073709551615) (h0 : e88.den env = true) (h1 : e89.den env = false) (h2 : e90.den env = false) (h3 : e91.den env = false) (h4 : e94.den env = true) : False := by
  have m1 : env 1 % 18446744073709551616 = env 1 := by omega
  have m2 : env 2 % 18446744073709551616 = env 2 := by omega
  have m3 : (env 1).tmod (env 2) % 18446744073709551616 = (env 1).tmod (env 2) := by have := small a1 a2; omega
  simp only [e88, e89, e90, e91, e94, IE.den, den_iff, BE.P, Bool.not_true, Bool.not_false, Int.ofNat_eq_natCast, den_and, den_tmod, s_i64, n32, n64, cut32, cut0, sgn32, sgn0, t32, t64, neg1, negA, negB] at h0 h1 h2 h3 h4
  try simp only [den_add, den_sub, den_mul, den_tdiv, den_tmod, den_and, den_or, den_xor, and_low, and_31, and_63, and_lt, or_lt, xor_lt, shr_lt a1 b1, wrap_u32, wrap_u64, wrap_i32, wrap_i64, tdiv_neg1, tmod_neg1, m1, m2, m3] at h0 h1 h2 h3 h4
  first | omega | (try simp only [not_true_eq_false] at *)
theorem o88 (a1 : 0 ≤ env 1) (b1 : env 1 ≤ 18446744073709551615) (a2 : 0 ≤ env 2) (b2 : env 2 ≤ 18446744073709551615) (h0 : e88.den env = true) (h1 : e89.den env = false) (h2 : e90.den env = false) (h3 : e91.den env = false) (h4 : e94.den env = false) (h5 : e109.den env = false) : False := by
  have m1 : env 1 % 18446744073709551616 = env 1 := by omega
  have m2 : env 2 % 18446744073709551616 = env 2 := by omega
  have m3 : (env 1).tmod (env 2) % 18446744073709551616 = (env 1).tmod (env 2) := by have := small a1 a2; omega
  simp only [e88, e89, e90, e91, e94, e109, IE.den, den_iff, BE.P, Bool.not_true, Bool.not_false, Int.ofNat_eq_natCast, den_and, den_tmod, s_i64, n32, n64, cut32, cut0, sgn32, sgn0, t32, t64, neg1, negA, negB] at h0 h1 h2 h3 h4 h5
  try simp only [den_add, den_sub, den_mul, den_tdiv, den_tmod, den_and, den_or, den_xor, and_low, and_31, and_63, and_lt, or_lt, xor_lt, shr_lt a1 b1, wrap_u32, wrap_u64, wrap_i32, wrap_i64, tdiv_neg1, tmod_neg1, m1, m2, m3] at h0 h1 h2 h3 h4 h5
  first | omega | (try simp only [not_true_eq_false] at *)
theorem o89 (a1 : 0 ≤ env 1) (b1 : env 1 ≤ 18446744073709551615) (a2 : 0 ≤ env 2) (b2 : env 2 ≤ 18446744073709551615) (h0 : e88.den env = false) (h1 : e89.den env = true) (h2 : e90.den env = false) (h3 : e91.den env = true) : False := by
  have m1 : env 1 % 18446744073709551616 = env 1 := by omega
  have m2 : env 2 % 18446744073709551616 = env 2 := by omega
  have m3 : (env 1).tmod (env 2) % 18446744073709551616 = (env 1).tmod (env 2) := by have := small a1 a2; omega
  simp only [e88, e89, e90, e91, IE.den, den_iff, BE.P, Bool.not_true, Bool.not_false, Int.ofNat_eq_natCast, den_and, den_tmod, s_i64, n32, n64, cut32, cut0, sgn32, sgn0, t32, t64, neg1, negA, negB] at h0 h1 h2 h3
  try simp only [den_add, den_sub, den_mul, den_tdiv, den_tmod, den_and, den_or, den_xor, and_low, and_31, and_63, and_lt, or_lt, xor_lt, shr_lt a1 b1, wrap_u32, wrap_u64, wrap_i32, wrap_i64, tdiv_neg1, tmod_neg1, m1, m2, m3] at h0 h1 h2 h3
  first | omega | (try simp only [not_true_eq_false] at *)
theorem o90 (a1 : 0 ≤ env 1) (b1 : env 1 ≤ 18446744073709551615) (a2 : 0 ≤ env 2) (b2 : env 2 ≤ 18446744073709551615) (h0 : e88.den env = false) (h1 : e89.den env = true) (h2 : e90.den env = false) (h3 : e91.den env = false) (h4 : e94.den env = false) (h5 : e109.den env = true) : False := by
  have m1 : env 1 % 18446744073709551616 = env 1 := by omega
  have m2 : env 2 % 18446744073709551616 = env 2 := by omega
  have m3 : (env 1).tmod (env 2) % 18446744073709551616 = (env 1).tmod (env 2) := by have := small a1 a2; omega
  simp only [e88, e89, e90, e91, e94, e109, IE.den, den_iff, BE.P, Bool.not_true, Bool.not_false, Int.ofNat_eq_natCast, den_and, den_tmod, s_i64, n32, n64, cut32, cut0, sgn32, sgn0, t32, t64, neg1, negA, negB] at h0 h1 h2 h3 h4 h5
  try simp only [den_add, den_sub, den_mul, den_tdiv, den_tmod, den_and, den_or, den_xor, and_low, and_31, and_63, and_lt, or_lt, xor_lt, shr_lt a1 b1, wrap_u32, wrap_u64, wrap_i32, wrap_i64, tdiv_neg1, tmod_neg1, m1, m2, m3] at h0 h1 h2 h3 h4 h5
  first | omega | (try simp only [not_true_eq_false] at *)
theorem o91 (a1 : 0 ≤ env 1) (b1 : env 1 ≤ 18446744073709551615) (a2 : 0 ≤ env 2) (b2 : env 2 ≤ 18446744073709551615) (h0 : e88.den env = false) (h1 : e89.den env = true) (h2 : e90.den env = false) (h3 : e91.den env = false) (h4 : e94.den env = false) (h5 : e109.den env = false) : False := by
  have m1 : env 1 % 18446744073709551616 = env 1 := by omega
  have m2 : env 2 % 18446744073709551616 = env 2 := by omega
  have m3 : (env 1).tmod (env 2) % 18446744073709551616 = (env 1).tmod (env 2) := by have := small a1 a2; omega
  simp only [e88, e89, e90, e91, e94, e109, IE.den, den_iff, BE.P, Bool.not_true, Bool.not_false, Int.ofNat_eq_natCast, den_and, den_tmod, s_i64, n32, n64, cut32, cut0, sgn32, sgn0, t32, t64, neg1, negA, negB] at h0 h1 h2 h3 h4 h5
  try simp only [den_add, den_sub, den_mul, den_tdiv, den_tmod, den_and, den_or, den_xor, and_low, and_31, and_63, and_lt, or_lt, xor_lt, shr_lt a1 b1, wrap_u32, wrap_u64, wrap_i32, wrap_i64, tdiv_neg1, tmod_neg1, m1, m2, m3] at h0 h1 h2 h3 h4 h5
  first | omega | (try simp only [not_true_eq_false] at *)
theorem o92 (a1 : 0 ≤ env 1) (b1 : env 1 ≤ 18446744073709551615) (a2 : 0 ≤ env 2) (b2 : env 2 ≤ 18446744073709551615) (h0 : e88.den env = false) (h1 : e89.den env = false) (h2 : e100.den env = false) (h3 : e90.den env = true) (h4 : e110.den env = true) : False := by
  have m1 : env 1 % 18446744073709551616 = env 1 := by omega
  have m2 : env 2 % 18446744073709551616 = env 2 := by omega
  have m3 : (env 1).tmod (env 2) % 18446744073709551616 = (env 1).tmod (env 2) := by have := small a1 a2; omega
  simp only [e88, e89, e100, e90, e110, IE.den, den_iff, BE.P, Bool.not_true, Bool.not_false, Int.ofNat_eq_natCast, den_and, den_tmod, s_i64, n32, n64, cut32, cut0, sgn32, sgn0, t32, t64, neg1, negA, negB] at h0 h1 h2 h3 h4
  try simp only [den_add, den_sub, den_mul, den_tdiv, den_tmod, den_and, den_or, den_xor, and_low, and_31, and_63, and_lt, or_lt, xor_lt, shr_lt a1 b1, wrap_u32, wrap_u64, wrap_i32, wrap_i64, tdiv_neg1, tmod_neg1, m1, m2, m3] at h0 h1 h2 h3 h4
  first | omega | (try simp only [not_true_eq_false] at *)
theorem o93 (a1 : 0 ≤ env 1) (b1 : env 1 ≤ 18446744073709551615) (a2 : 0 ≤ env 2) (b2 : env 2 ≤ 18446744073709551615) (h0 : e88.den env = false) (h1 : e89.den env = false) (h2 : e100.den env = false) (h3 : e90.den env = true) (h4 : e110.den env = false) : False := by
  have m1 : env 1 % 18446744073709551616 = env 1 := by omega
  have m2 : env 2 % 18446744073709551616 = env 2 := by omega
  have m3 : (env 1).tmod (env 2) % 18446744073709551616 = (env 1).tmod (env 2) := by have := small a1 a2; omega
  simp only [e88, e89, e100, e90, e110, IE.den, den_iff, BE.P, Bool.not_true, Bool.not_false, Int.ofNat_eq_natCast, den_and, den_tmod, s_i64, n32, n64, cut32, cut0, sgn32, sgn0, t32, t64, neg1, negA, negB] at h0 h1 h2 h3 h4
  try simp only [den_add, den_sub, den_mul, den_tdiv, den_tmod, den_and, den_or, den_xor, and_low, and_31, and_63, and_lt, or_lt, xor_lt, shr_lt a1 b1, wrap_u32, wrap_u64, wrap_i32, wrap_i64, tdiv_neg1, tmod_neg1, m1, m2, m3] at h0 h1 h2 h3 h4
  first | omega | (try simp only [not_true_eq_false] at *)
theorem o94 (a1 : 0 ≤ env 1) (b1 : env 1 ≤ 18446744073709551615) (a2 : 0 ≤ env 2) (b2 : env 2 ≤ 18446744073709551615) (h0 : e88.den env = false) (h1 : e89.den env = false) (h2 : e100.den env = false) (h3 : e90.den env = false) (h4 : e91.den env = true) (h5 : e110.den env = false) : False := by
  have m1 : env 1 % 18446744073709551616 = env 1 := by omega
  have m2 : env 2 % 18446744073709551616 = env 2 := by omega
  have m3 : (env 1).tmod (env 2) % 18446744073709551616 = (env 1).tmod (env 2) := by have := small a1 a2; omega
  simp only [e88, e89, e100, e90, e91, e110, IE.den, den_iff, BE.P, Bool.not_true, Bool.not_false, Int.ofNat_eq_natCast, den_and, den_tmod, s_i64, n32, n64, cut32, cut0, sgn32, sgn0, t32, t64, neg1, negA, negB] at h0 h1 h2 h3 h4 h5
  try simp only [den_add, den_sub, den_mul, den_tdiv, den_tmod, den_and, den_or, den_xor, and_low, and_31, and_63, and_lt, or_lt, xor_lt, shr_lt a1 b1, wrap_u32, wrap_u64, wrap_i32, wrap_i64, tdiv_neg1, tmod_neg1, m1, m2, m3] at h0 h1 h2 h3 h4 h5
  first | omega | (try simp only [not_true_eq_false] at *)
theorem o95 (a1 : 0 ≤ env 1) (b1 : env 1 ≤ 18446744073709551615) (a2 : 0 ≤ env 2) (b2 : env 2 ≤ 18446744073709551615) (h0 : e88.den env = false) (h1 : e89.den env = false) (h2 : e100.den env = false) (h3 : e90.den env = false) (h4 : e91.den env = false) (h5 : e94.den env = false) (h6 : e111.den env = false) : False := by
  have m1 : env 1 % 18446744073709551616 = env 1 := by omega
  have m2 : env 2 % 18446744073709551616 = env 2 := by omega
  have m3 : (env 1).tmod (env 2) % 18446744073709551616 = (env 1).tmod (env 2) := by have := small a1 a2; omega
  simp only [e88, e89, e100, e90, e91, e94, e111, IE.den, den_iff, BE.P, Bool.not_true, Bool.not_false, Int.ofNat_eq_natCast, den_and, den_tmod, s_i64, n32, n64, cut32, cut0, sgn32, sgn0, t32, t64, neg1, negA, negB] at h0 h1 h2 h3 h4 h5 h6
  try simp only [den_add, den_sub, den_mul, den_tdiv, den_tmod, den_and, den_or, den_xor, and_low, and_31, and_63, and_lt, or_lt, xor_lt, shr_lt a1 b1, wrap_u32, wrap_u64, wrap_i32, wrap_i64, tdiv_neg1, tmod_neg1, m1, m2, m3] at h0 h1 h2 h3 h4 h5 h6
  first | omega | (try simp only [not_true_eq_false] at *)
theorem o96 (a1 : 0 ≤ env 1) (b1 : env 1 ≤ 18446744073709551615) (a2 : 0 ≤ env 2) (b2 : env 2 ≤ 18446744073709551615) (h0 : e88.den env = true) (h1 : e89.den env = true) (h2 : e90.den env = false) (h3 : e113.den env = true) : False := by
  have m1 : env 1 % 18446744073709551616 = env 1 := by omega
  have m2 : env 2 % 18446744073709551616 = env 2 := by omega
  have m3 : (env 1).tmod (env 2) % 18446744073709551616 = (env 1).tmod (env 2) := by have := small a1 a2; omega
  simp only [e88, e89, e90, e113, IE.den, den_iff, BE.P, Bool.not_true, Bool.not_false, Int.ofNat_eq_natCast, den_and, den_tmod, s_i64, n32, n64, cut32, cut0, sgn32, sgn0, t32, t64, neg1, negA, negB] at h0 h1 h2 h3
  try simp only [den_add, den_sub, den_mul, den_tdiv, den_tmod, den_and, den_or, den_xor, and_low, and_31, and_63, and_lt, or_lt, xor_lt, shr_lt a1 b1, wrap_u32, wrap_u64, wrap_i32, wrap_i64, tdiv_neg1, tmod_neg1, m1, m2, m3] at h0 h1 h2 h3
  first | omega | (try simp only [not_true_eq_false] at *)
theorem o97 (a1 : 0 ≤ env 1) (b1 : env 1 ≤ 18446744073709551615) (a2 : 0 ≤ env 2) (b2 : env 2 ≤ 18446744073709551615) (h0 : e88.den env = true) (h1 : e89.den env = true) (h2 : e90.den env = false) (h3 : e113.den env = false) : False := by
  have m1 : env 1 % 18446744073709551616 = env 1 := by omega
  have m2 : env 2 % 18446744073709551616 = env 2 := by omega
  have m3 : (env 1).tmod (env 2) % 18446744073709551616 = (env 1).tmod (env 2) := by have := small a1 a2; omega
  simp only [e88, e89, e90, e113, IE.den, den_iff, BE.P, Bool.not_true, Bool.not_false, Int.ofNat_eq_natCast, den_and, den_tmod, s_i64, n32, n64, cut32, cut0, sgn32, sgn0, t32, t64, neg1, negA, negB] at h0 h1 h2 h3
  try simp only [den_add, den_sub, den_mul, den_tdiv, den_tmod, den_and, den_or, den_xor, and_low, and_31, and_63, and_lt, or_lt, xor_lt, shr_lt a1 b1, wrap_u32, wrap_u64, wrap_i32, wrap_i64, tdiv_neg1, tmod_neg1, m1, m2, m3] at h0 h1 h2 h3
  first | omega | (try simp only [not_true_eq_false] at *)
theorem o98 (a1 : 0 ≤ env 1) (b1 : env 1 ≤ 18446744073709551615) (a2 : 0 ≤ env 2) (b2 : env 2 ≤ 18446744073709551615) (h0 : e88.den env = true) (h1 : e89.den env = false) (h2 : e90.den env = true) (h3 : e114.den env = true) : False := by
  have m1 : env 1 % 18446744073709551616 = env 1 := by omega
  have m2 : env 2 % 18446744073709551616 = env 2 := by omega
  have m3 : (env 1).tmod (env 2) % 18446744073709551616 = (env 1).tmod (env 2) := by have := small a1 a2; omega
  simp only [e88, e89, e90, e114, IE.den, den_iff, BE.P, Bool.not_true, Bool.not_false, Int.ofNat_eq_natCast, den_and, den_tmod, s_i64, n32, n64, cut32, cut0, sgn32, sgn0, t32, t64, neg1, negA, negB] at h0 h1 h2 h3
  try simp only [den_add, den_sub, den_mul, den_tdiv, den_tmod, den_and, den_or, den_xor, and_low, and_31, and_63, and_lt, or_lt, xor_lt, shr_lt a1 b1, wrap_u32, wrap_u64, wrap_i32, wrap_i64, tdiv_neg1, tmod_neg1, m1, m2, m3] at h0 h1 h2 h3
  first | omega | (try simp only [not_true_eq_false] at *)
theorem o99 (a1 : 0 ≤ env 1) (b1 : env 1 ≤ 18446744073709551615) (a2 : 0 ≤ env 2) (b2 : env 2 ≤ 18446744073709551615) (h0 : e88.den env = true) (h1 : e89.den env = false) (h2 : e90.den env = true) (h3 : e114.den env = false) : False := by
  have m1 : env 1 % 18446744073709551616 = env 1 := by omega
  have m2 : env 2 % 18446744073709551616 = env 2 := by omega
  have m3 : (env 1).tmod (env 2) % 18446744073709551616 = (env 1).tmod (env 2) := by have := small a1 a2; omega
  simp only [e88, e89, e90, e114, IE.den, den_iff, BE.P, Bool.not_true, Bool.not_false, Int.ofNat_eq_natCast, den_and, den_tmod, s_i64, n32, n64, cut32, cut0, sgn32, sgn0, t32, t64, neg1, negA, negB] at h0 h1 h2 h3
  try simp only [den_add, den_sub, den_mul, den_tdiv, den_tmod, den_and, den_or, den_xor, and_low, and_31, and_63, and_lt, or_lt, xor_lt, shr_lt a1 b1, wrap_u32, wrap_u64, wrap_i32, wrap_i64, tdiv_neg1, tmod_neg1, m1, m2, m3] at h0 h1 h2 h3
  first | omega | (try simp only [not_true_eq_false] at *)
theorem o100 (a1 : 0 ≤ env 1) (b1 : env 1 ≤ 18446744073709551615) (a2 : 0 ≤ env 2) (b2 : env 2 ≤ 18446744073709551615) (h0 : e88.den env = true) (h1 : e89.den env = false) (h2 : e90.den env = false) (h3 : e115.den env = false) : False := by
  have m1 : env 1 % 18446744073709551616 = env 1 := by omega
  have m2 : env 2 % 18446744073709551616 = env 2 := by omega
  have m3 : (env 1).tmod (env 2) % 18446744073709551616 = (env 1).tmod (env 2) := by have := small a1 a2; omega
  simp only [e88, e89, e90, e115, IE.den, den_iff, BE.P, Bool.not_true, Bool.not_false, Int.ofNat_eq_natCast, den_and, den_tmod, s_i64, n32, n64, cut32, cut0, sgn32, sgn0, t32, t64, neg1, negA, negB] at h0 h1 h2 h3
  try simp only [den_add, den_sub, den_mul, den_tdiv, den_tmod, den_and, den_or, den_xor, and_low, and_31, and_63, and_lt, or_lt, xor_lt, shr_lt a1 b1, wrap_u32, wrap_u64, wrap_i32, wrap_i64, tdiv_neg1, tmod_neg1, m1, m2, m3] at h0 h1 h2 h3
  first | omega | (try simp only [not_true_eq_false] at *)
theorem o101 (a1 : 0 ≤ env 1) (b1 : env 1 ≤ 18446744073709551615) (a2 : 0 ≤ env 2) (b2 : env 2 ≤ 18446744073709551615) (h0 : e88.den env = false) (h1 : e89.den env = true) (h2 : e90.den env = false) (h3 : e113.den env = true) : False := by
  have m1 : env 1 % 18446744073709551616 = env 1 := by omega
  have m2 : env 2 % 18446744073709551616 = env 2 := by omega
  have m3 : (env 1).tmod (env 2) % 18446744073709551616 = (env 1).tmod (env 2) := by have := small a1 a2; omega
  simp only [e88, e89, e90, e113, IE.den, den_iff, BE.P, Bool.not_true, Bool.not_false, Int.ofNat_eq_natCast, den_and, den_tmod, s_i64, n32, n64, cut32, cut0, sgn32, sgn0, t32, t64, neg1, negA, negB] at h0 h1 h2 h3
  try simp only [den_add, den_sub, den_mul, den_tdiv, den_tmod, den_and, den_or, den_xor, and_low, and_31, and_63, and_lt, or_lt, xor_lt, shr_lt a1 b1, wrap_u32, wrap_u64, wrap_i32, wrap_i64, tdiv_neg1, tmod_neg1, m1, m2, m3] at h0 h1 h2 h3
  first | omega | (try simp only [not_true_eq_false] at *)
theorem o102 (a1 : 0 ≤ env 1) (b1 : env 1 ≤ 18446744073709551615) (a2 : 0 ≤ env 2) (b2 : env 2 ≤ 18446744073709551615) (h0 : e88.den env = false) (h1 : e89.den env = true) (h2 : e90.den env = false) (h3 : e113.den env = false) : False := by
  have m1 : env 1 % 18446744073709551616 = env 1 := by omega
  have m2 : env 2 % 18446744073709551616 = env 2 := by omega
  have m3 : (env 1).tmod (env 2) % 18446744073709551616 = (env 1).tmod (env 2) := by have := small a1 a2; omega
  simp only [e88, e89, e90, e113, IE.den, den_iff, BE.P, Bool.not_true, Bool.not_false, Int.ofNat_eq_natCast, den_and, den_tmod, s_i64, n32, n64, cut32, cut0, sgn32, sgn0, t32, t64, neg1, negA, negB] at h0 h1 h2 h3
  try simp only [den_add, den_sub, den_mul, den_tdiv, den_tmod, den_and, den_or, den_xor, and_low, and_31, and_63, and_lt, or_lt, xor_lt, shr_lt a1 b1, wrap_u32, wrap_u64, wrap_i32, wrap_i64, tdiv_neg1, tmod_neg1, m1, m2, m3] at h0 h1 h2 h3
  first | omega | (try simp only [not_true_eq_false] at *)
theorem o103 (a1 : 0 ≤ env 1) (b1 : env 1 ≤ 18446744073709551615) (a2 : 0 ≤ env 2) (b2 : env 2 ≤ 18446744073709551615) (h0 : e88.den env = false) (h1 : e89.den env = false) (h2 : e90.den env = true) (h3 : e114.den env = true) : False := by
  have m1 : env 1 % 18446744073709551616 = env 1 := by omega
  have m2 : env 2 % 18446744073709551616 = env 2 := by omega
  have m3 : (env 1).tmod (env 2) % 18446744073709551616 = (env 1).tmod (env 2) := by have := small a1 a2; omega
  simp only [e88, e89, e90, e114, IE.den, den_iff, BE.P, Bool.not_true, Bool.not_false, Int.ofNat_eq_natCast, den_and, den_tmod, s_i64, n32, n64, cut32, cut0, sgn32, sgn0, t32, t64, neg1, negA, negB] at h0 h1 h2 h3
  try simp only [den_add, den_sub, den_mul, den_tdiv, den_tmod, den_and, den_or, den_xor, and_low, and_31, and_63, and_lt, or_lt, xor_lt, shr_lt a1 b1, wrap_u32, wrap_u64, wrap_i32, wrap_i64, tdiv_neg1, tmod_neg1, m1, m2, m3] at h0 h1 h2 h3
  first | omega | (try simp only [not_true_eq_false] at *)
theorem o104 (a1 : 0 ≤ env 1) (b1 : env 1 ≤ 18446744073709551615) (a2 : 0 ≤ env 2) (b2 : env 2 ≤ 18446744073709551615) (h0 : e88.den env = false) (h1 : e89.den env = false) (h2 : e90.den env = true) (h3 : e114.den env = false) : False := by
  have m1 : env 1 % 18446744073709551616 = env 1 := by omega
  have m2 : env 2 % 18446744073709551616 = env 2 := by omega
  have m3 : (env 1).tmod (env 2) % 18446744073709551616 = (env 1).tmod (env 2) := by have := small a1 a2; omega
  simp only [e88, e89, e90, e114, IE.den, den_iff, BE.P, Bool.not_true, Bool.not_false, Int.ofNat_eq_natCast, den_and, den_tmod, s_i64, n32, n64, cut32, cut0, sgn32, sgn0, t32, t64, neg1, negA, negB] at h0 h1 h2 h3
  try simp only [den_add, den_sub, den_mul, den_tdiv, den_tmod, den_and, den_or, den_xor, and_low, and_31, and_63, and_lt, or_lt, xor_lt, shr_lt a1 b1, wrap_u32, wrap_u64, wrap_i32, wrap_i64, tdiv_neg1, tmod_neg1, m1, m2, m3] at h0 h1 h2 h3
  first | omega | (try simp only [not_true_eq_false] at *)
theorem o105 (a1 : 0 ≤ env 1) (b1 : env 1 ≤ 18446744073709551615) (a2 : 0 ≤ env 2) (b2 : env 2 ≤ 18446744073709551615) (h0 : e88.den env = false) (h1 : e89.den env = false) (h2 : e90.den env = false) (h3 : e115.den env = false) : False := by
  have m1 : env 1 % 18446744073709551616 = env 1 := by omega
  have m2 : env 2 % 18446744073709551616 = env 2 := by omega
  have m3 : (env 1).tmod (env 2) % 18446744073709551616 = (env 1).tmod (env 2) := by have := small a1 a2; omega
  simp only [e88, e89, e90, e115, IE.den, den_iff, BE.P, Bool.not_true, Bool.not_false, Int.ofNat_eq_natCast, den_and, den_tmod, s_i64, n32, n64, cut32, cut0, sgn32, sgn0, t32, t64, neg1, negA, negB] at h0 h1 h2 h3
  try simp only [den_add, den_sub, den_mul, den_tdiv, den_tmod, den_and, den_or, den_xor, and_low, and_31, and_63, and_lt, or_lt, xor_lt, shr_lt a1 b1, wrap_u32, wrap_u64, wrap_i32, wrap_i64, tdiv_neg1, tmod_neg1, m1, m2, m3] at h0 h1 h2 h3
  first | omega | (try simp only [not_true_eq_false] at *)
theorem o106 (a1 : 0 ≤ env 1) (b1 : env 1 ≤ 18446744073709551615) (a2 : 0 ≤ env 2) (b2 : env 2 ≤ 18446744073709551615) (h0 : e117.den env = false) : False := by
  have m1 : env 1 % 18446744073709551616 = env 1 := by omega
  have m2 : env 2 % 18446744073709551616 = env 2 := by omega
  have m3 : (env 1).tmod (env 2) % 18446744073709551616 = (env 1).tmod (env 2) := by have := small a1 a2; omega
  simp only [e117, IE.den, den_iff, BE.P, Bool.not_true, Bool.not_false, Int.ofNat_eq_natCast, den_and, den_tmod, s_i64, n32, n64, cut32, cut0, sgn32, sgn0, t32, t64, neg1, negA, negB] at h0
  try simp only [den_add, den_sub, den_mul, den_tdiv, den_tmod, den_and, den_or, den_xor, and_low, and_31, and_63, and_lt, or_lt, xor_lt, shr_lt a1 b1, wrap_u32, wrap_u64, wrap_i32, wrap_i64, tdiv_neg1, tmod_neg1, m1, m2, m3] at h0
  first | omega | (try simp only [not_true_eq_false] at *)
theorem o107 (a1 : 0 ≤ env 1) (b1 : env 1 ≤ 18446744073709551615) (a2 : 0 ≤ env 2) (b2 : env 2 ≤ 18446744073709551615) (h0 : e119.den env = false) : False := by
  have m1 : env 1 % 18446744073709551616 = env 1 := by omega
  have m2 : env 2 % 18446744073709551616 = env 2 := by omega
  have m3 : (env 1).tmod (env 2) % 18446744073709551616 = (env 1).tmod (env 2) := by have := small a1 a2; omega
  simp only [e119, IE.den, den_iff, BE.P, Bool.not_true, Bool.not_false, Int.ofNat_eq_natCast, den_and, den_tmod, s_i64, n32, n64, cut32, cut0, sgn32, sgn0, t32, t64, neg1, negA, negB] at h0
  try simp only [den_add, den_sub, den_mul, den_tdiv, den_tmod, den_and, den_or, den_xor, and_low, and_31, and_63, and_lt, or_lt, xor_lt, shr_lt a1 b1, wrap_u32, wrap_u64, wrap_i32, wrap_i64, tdiv_neg1, tmod_neg1, m1, m2, m3] at h0
  first | omega | (try simp only [not_true_eq_false] at *)
theorem o108 (a1 : 0 ≤ env 1) (b1 : env 1 ≤ 18446744073709551615) (a2 : 0 ≤ env 2) (b2 : env 2 ≤ 18446744073709551615) (h0 : e121.den env = false) : False := by
  have m1 : env 1 % 18446744073709551616 = env 1 := by omega
  have m2 : env 2 % 18446744073709551616 = env 2 := by omega
  have m3 : (env 1).tmod (env 2) % 18446744073709551616 = (env 1).tmod (env 2) := by have := small a1 a2; omega
  simp only [e121, IE.den, den_iff, BE.P, Bool.not_true, Bool.not_false, Int.ofNat_eq_natCast, den_and, den_tmod, s_i64, n32, n64, cut32, cut0, sgn32, sgn0, t32, t64, neg1, negA, negB] at h0
  try simp only [den_add, den_sub, den_mul, den_tdiv, den_tmod, den_and, den_or, den_xor, and_low, and_31, and_63, and_lt, or_lt, xor_lt, shr_lt a1 b1, wrap_u32, wrap_u64, wrap_i32, wrap_i64, tdiv_neg1, tmod_neg1, m1, m2, m3] at h0
  first | omega | (try simp only [not_true_eq_false] at *)
theorem o109 (a1 : 0 ≤ env 1) (b1 : env 1 ≤ 18446744073709551615) (a2 : 0 ≤ env 2) (b2 : env 2 ≤ 18446744073709551615) (h0 : e123.den env = true) (h1 : e124.den env = true) (h2 : e125.den env = false) : False := by
  have m1 : env 1 % 18446744073709551616 = env 1 := by omega
  have m2 : env 2 % 18446744073709551616 = env 2 := by omega
  have m3 : (env 1).tmod (env 2) % 18446744073709551616 = (env 1).tmod (env 2) := by have := small a1 a2; omega
  simp only [e123, e124, e125, IE.den, den_iff, BE.P, Bool.not_true, Bool.not_false, Int.ofNat_eq_natCast, den_and, den_tmod, s_i64, n32, n64, cut32, cut0, sgn32, sgn0, t32, t64, neg1, negA, negB] at h0 h1 h2
  try simp only [den_add, den_sub, den_mul, den_tdiv, den_tmod, den_and, den_or, den_xor, and_low, and_31, and_63, and_lt, or_lt, xor_lt, shr_lt a1 b1, wrap_u32, wrap_u64, wrap_i32, wrap_i64, tdiv_neg1, tmod_neg1, m1, m2, m3] at h0 h1 h2
  first | omega | (try simp only [not_true_eq_false] at *)
theorem o110 (a1 : 0 ≤ env 1) (b1 : env 1 ≤ 18446744073709551615) (a2 : 0 ≤ env 2) (b2 : env 2 ≤ 18446744073709551615) (h0 : e123.den env = true) (h1 : e124.den env = false) : False := by
  have m1 : env 1 % 18446744073709551616 = env 1 := by omega
  have m2 : env 2 % 18446744073709551616 = env 2 := by omega
  have m3 : (env 1).tmod (env 2) % 18446744073709551616 = (env 1).tmod (env 2) := by have := small a1 a2; omega
  simp only [e123, e124, IE.den, den_iff, BE.P, Bool.not_true, Bool.not_false, Int.ofNat_eq_natCast, den_and, den_tmod, s_i64, n32, n64, cut32, cut0, sgn32, sgn0, t32, t64, neg1, negA, negB] at h0 h1
  try simp only [den_add, den_sub, den_mul, den_tdiv, den_tmod, den_and, den_or, den_xor, and_low, and_31, and_63, and_lt, or_lt, xor_lt, shr_lt a1 b1, wrap_u32, wrap_u64, wrap_i32, wrap_i64, tdiv_neg1, tmod_neg1, m1, m2, m3] at h0 h1
  first | omega | (try simp only [not_true_eq_false] at *)
theorem o111 (a1 : 0 ≤ env 1) (b1 : env 1 ≤ 18446744073709551615) (a2 : 0 ≤ env 2) (b2 : env 2 ≤ 18446744073709551615) (h0 : e123.den env = false) : False := by
  have m1 : env 1 % 18446744073709551616 = env 1 := by omega
  have m2 : env 2 % 18446744073709551616 = env 2 := by omega
  have m3 : (env 1).tmod (env 2) % 18446744073709551616 = (env 1).tmod (env 2) := by have := small a1 a2; omega
  simp only [e123, IE.den, den_iff, BE.P, Bool.not_true, Bool.not_false, Int.ofNat_eq_natCast, den_and, den_tmod, s_i64, n32, n64, cut32, cut0, sgn32, sgn0, t32, t64, neg1, negA, negB] at h0
  try simp only [den_add, den_sub, den_mul, den_tdiv, den_tmod, den_and, den_or, den_xor, and_low, and_31, and_63, and_lt, or_lt, xor_lt, shr_lt a1 b1, wrap_u32, wrap_u64, wrap_i32, wrap_i64, tdiv_neg1, tmod_neg1, m1, m2, m3] at h0
  first | omega | (try simp only [not_true_eq_false] at *)
theorem o112 (a1 : 0 ≤ env 1) (b1 : env 1 ≤ 18446744073709551615) (a2 : 0 ≤ env 2) (b2 : env 2 ≤ 18446744073709551615) (h0 : e123.den env = true) (h1 : e124.den env = true) (h2 : e127.den env = false) : False := by
  have m1 : env 1 % 18446744073709551616 = env 1 := by omega
  have m2 : env 2 % 18446744073709551616 = env 2 := by omega
  have m3 : (env 1).tmod (env 2) % 18446744073709551616 = (env 1).tmod (env 2) := by have := small a1 a2; omega
  simp only [e123, e124, e127, IE.den, den_iff, BE.P, Bool.not_true, Bool.not_false, Int.ofNat_eq_natCast, den_and, den_tmod, s_i64, n32, n64, cut32, cut0, sgn32, sgn0, t32, t64, neg1, negA, negB] at h0 h1 h2
  try simp only [den_add, den_sub, den_mul, den_tdiv, den_tmod, den_and, den_or, den_xor, and_low, and_31, and_63, and_lt, or_lt, xor_lt, shr_lt a1 b1, wrap_u32, wrap_u64, wrap_i32, wrap_i64, tdiv_neg1, tmod_neg1, m1, m2, m3] at h0 h1 h2
  first | omega | (try simp only [not_true_eq_false] at *)
theorem o113 (a1 : 0 ≤ env 1) (b1 : env 1 ≤ 18446744073709551615) (a2 : 0 ≤ env 2) (b2 : env 2 ≤ 18446744073709551615) (h0 : e123.den env = true) (h1 : e124.den env = true) (h2 : e129.den env = false) : False := by
  have m1 : env 1 % 18446744073709551616 = env 1 := by omega
  have m2 : env 2 % 18446744073709551616 = env 2 := by omega
  have m3 : (env 1).tmod (env 2) % 18446744073709551616 = (env 1).tmod (env 2) := by have := small a1 a2; omega
  simp only [e123, e124, e129, IE.den, den_iff, BE.P, Bool.not_true, Bool.not_false, Int.ofNat_eq_natCast, den_and, den_tmod, s_i64, n32, n64, cut32, cut0, sgn32, sgn0, t32, t64, neg1, negA, negB] at h0 h1 h2
  try simp only [den_add, den_sub, den_mul, den_tdiv, den_tmod, den_and, den_or, den_xor, and_low, and_31, and_63, and_lt, or_lt, xor_lt, shr_lt a1 b1, wrap_u32, wrap_u64, wrap_i32, wrap_i64, tdiv_neg1, tmod_neg1, m1, m2, m3] at h0 h1 h2
  first | omega | (try simp only [not_true_eq_false] at *)
theorem o114 (a1 : 0 ≤ env 1) (b1 : env 1 ≤ 18446744073709551615) (a2 : 0 ≤ env 2) (b2 : env 2 ≤ 18446744073709551615) (h0 : e131.den env = true) (h1 : e132.den env = true) (h2 : e124.den env = true) (h3 : e133.den env = false) : False := by
  have m1 : env 1 % 18446744073709551616 = env 1 := by omega
  have m2 : env 2 % 18446744073709551616 = env 2 := by omega
  have m3 : (env 1).tmod (env 2) % 18446744073709551616 = (env 1).tmod (env 2) := by have := small a1 a2; omega
  simp only [e131, e132, e124, e133, IE.den, den_iff, BE.P, Bool.not_true, Bool.not_false, Int.ofNat_eq_natCast, den_and, den_tmod, s_i64, n32, n64, cut32, cut0, sgn32, sgn0, t32, t64, neg1, negA, negB] at h0 h1 h2 h3
  try simp only [den_add, den_sub, den_mul, den_tdiv, den_tmod, den_and, den_or, den_xor, and_low, and_31, and_63, and_lt, or_lt, xor_lt, shr_lt a1 b1, wrap_u32, wrap_u64, wrap_i32, wrap_i64, tdiv_neg1, tmod_neg1, m1, m2, m3] at h0 h1 h2 h3
  first | omega | (try simp only [not_true_eq_false] at *)
theorem o115 (a1 : 0 ≤ env 1) (b1 : env 1 ≤ 18446744073709551615) (a2 : 0 ≤ env 2) (b2 : env 2 ≤ 18446744073709551615) (h0 : e131.den env = true) (h1 : e132.den env = true) (h2 : e124.den env = false) : False := by
  have m1 : env 1 % 18446744073709551616 = env 1 := by omega
  have m2 : env 2 % 18446744073709551616 = env 2 := by omega
  have m3 : (env 1).tmod (env 2) % 18446744073709551616 = (env 1).tmod (env 2) := by have := small a1 a2; omega
  simp only [e131, e132, e124, IE.den, den_iff, BE.P, Bool.not_true, Bool.not_false, Int.ofNat_eq_natCast, den_and, den_tmod, s_i64, n32, n64, cut32, cut0, sgn32, sgn0, t32, t64, neg1, negA, negB] at h0 h1 h2
  try simp only [den_add, den_sub, den_mul, den_tdiv, den_tmod, den_and, den_or, den_xor, and_low, and_31, and_63, and_lt, or_lt, xor_lt, shr_lt a1 b1, wrap_u32, wrap_u64, wrap_i32, wrap_i64, tdiv_neg1, tmod_neg1, m1, m2, m3] at h0 h1 h2
  first | omega | (try simp only [not_true_eq_false] at *)
theorem o116 (a1 : 0 ≤ env 1) (b1 : env 1 ≤ 18446744073709551615) (a2 : 0 ≤ env 2) (b2 : env 2 ≤ 18446744073709551615) (h0 : e131.den env = true) (h1 : e132.den env = false) : False := by
  have m1 : env 1 % 18446744073709551616 = env 1 := by omega
  have m2 : env 2 % 18446744073709551616 = env 2 := by omega
  have m3 : (env 1).tmod (env 2) % 18446744073709551616 = (env 1).tmod (env 2) := by have := small a1 a2; omega
  simp only [e131, e132, IE.den, den_iff, BE.P, Bool.not_true, Bool.not_false, Int.ofNat_eq_natCast, den_and, den_tmod, s_i64, n32, n64, cut32, cut0, sgn32, sgn0, t32, t64, neg1, negA, negB] at h0 h1
  try simp only [den_add, den_sub, den_mul, den_tdiv, den_tmod, den_and, den_or, den_xor, and_low, and_31, and_63, and_lt, or_lt, xor_lt, shr_lt a1 b1, wrap_u32, wrap_u64, wrap_i32, wrap_i64, tdiv_neg1, tmod_neg1, m1, m2, m3] at h0 h1
  first | omega | (try simp only [not_true_eq_false] at *)
theorem o117 (a1 : 0 ≤ env 1) (b1 : env 1 ≤ 18446744073709551615) (a2 : 0 ≤ env 2) (b2 : env 2 ≤ 18446744073709551615) (h0 : e131.den env = false) : False := by
  have m1 : env 1 % 18446744073709551616 = env 1 := by omega
  have m2 : env 2 % 18446744073709551616 = env 2 := by omega
  have m3 : (env 1).tmod (env 2) % 18446744073709551616 = (env 1).tmod (env 2) := by have := small a1 a2; omega
  simp only [e131, IE.den, den_iff, BE.P, Bool.not_true, Bool.not_false, Int.ofNat_eq_natCast, den_and, den_tmod, s_i64, n32, n64, cut32, cut0, sgn32, sgn0, t32, t64, neg1, negA, negB] at h0
  try simp only [den_add, den_sub, den_mul, den_tdiv, den_tmod, den_and, den_or, den_xor, and_low, and_31, and_63, and_lt, or_lt, xor_lt, shr_lt a1 b1, wrap_u32, wrap_u64, wrap_i32, wrap_i64, tdiv_neg1, tmod_neg1, m1, m2, m3] at h0
  first | omega | (try simp only [not_true_eq_false] at *)
theorem o118 (a1 : 0 ≤ env 1) (b1 : env 1 ≤ 18446744073709551615) (a2 : 0 ≤ env 2) (b2 : env 2 ≤ 18446744073709551615) (h0 : e136.den env = true) (h1 : e137.den env = true) (h2 : e124.den env = true) (h3 : e133.den env = false) : False := by
  have m1 : env 1 % 18446744073709551616 = env 1 := by omega
  have m2 : env 2 % 18446744073709551616 = env 2 := by omega
  have m3 : (env 1).tmod (env 2) % 18446744073709551616 = (env 1).tmod (env 2) := by have := small a1 a2; omega
  simp only [e136, e137, e124, e133, IE.den, den_iff, BE.P, Bool.not_true, Bool.not_false, Int.ofNat_eq_natCast, den_and, den_tmod, s_i64, n32, n64, cut32, cut0, sgn32, sgn0, t32, t64, neg1, negA, negB] at h0 h1 h2 h3
  try simp only [den_add, den_sub, den_mul, den_tdiv, den_tmod, den_and, den_or, den_xor, and_low, and_31, and_63, and_lt, or_lt, xor_lt, shr_lt a1 b1, wrap_u32, wrap_u64, wrap_i32, wrap_i64, tdiv_neg1, tmod_neg1, m1, m2, m3] at h0 h1 h2 h3
  first | omega | (try simp only [not_true_eq_false] at *)
theorem o119 (a1 : 0 ≤ env 1) (b1 : env 1 ≤ 18446744073709551615) (a2 : 0 ≤ env 2) (b2 : env 2 ≤ 18446744073709551615) (h0 : e136.den env = true) (h1 : e137.den env = true) (h2 : e124.den env = false) : False := by
  have m1 : env 1 % 18446744073709551616 = env 1 := by omega
  have m2 : env 2 % 18446744073709551616 = env 2 := by omega
  have m3 : (env 1).tmod (env 2) % 18446744073709551616 = (env 1).tmod (env 2) := by have := small a1 a2; omega
  simp only [e136, e137, e124, IE.den, den_iff, BE.P, Bool.not_true, Bool.not_false, Int.ofNat_eq_natCast, den_and, den_tmod, s_i64, n32, n64, cut32, cut0, sgn32, sgn0, t32, t64, neg1, negA, negB] at h0 h1 h2
  try simp only [den_add, den_sub, den_mul, den_tdiv, den_tmod, den_and, den_or, den_xor, and_low, and_31, and_63, and_lt, or_lt, xor_lt, shr_lt a1 b1, wrap_u32, wrap_u64, wrap_i32, wrap_i64, tdiv_neg1, tmod_neg1, m1, m2, m3] at h0 h1 h2
  first | omega | (try simp only [not_true_eq_false] at *)
theorem o120 (a1 : 0 ≤ env 1) (b1 : env 1 ≤ 18446744073709551615) (a2 : 0 ≤ env 2) (b2 : env 2 ≤ 18446744073709551615) (h0 : e136.den env = true) (h1 : e137.den env = false) : False := by
  have m1 : env 1 % 18446744073709551616 = env 1 := by omega
  have m2 : env 2 % 18446744073709551616 = env 2 := by omega
  have m3 : (env 1).tmod (env 2) % 18446744073709551616 = (env 1).tmod (env 2) := by have := small a1 a2; omega
  simp only [e136, e137, IE.den, den_iff, BE.P, Bool.not_true, Bool.not_false, Int.ofNat_eq_natCast, den_and, den_tmod, s_i64, n32, n64, cut32, cut0, sgn32, sgn0, t32, t64, neg1, negA, negB] at h0 h1
  try simp only [den_add, den_sub, den_mul, den_tdiv, den_tmod, den_and, den_or, den_xor, and_low, and_31, and_63, and_lt, or_lt, xor_lt, shr_lt a1 b1, wrap_u32, wrap_u64, wrap_i32, wrap_i64, tdiv_neg1, tmod_neg1, m1, m2, m3] at h0 h1
  first | omega | (try simp only [not_true_eq_false] at *)
theorem o121 (a1 : 0 ≤ env 1) (b1 : env 1 ≤ 18446744073709551615) (a2 : 0 ≤ env 2) (b2 : env 2 ≤ 18446744073709551615) (h0 : e136.den env = false) : False := by
  have m1 : env 1 % 18446744073709551616 = env 1 := by omega
  have m2 : env 2 % 18446744073709551616 = env 2 := by omega
  have m3 : (env 1).tmod (env 2) % 18446744073709551616 = (env 1).tmod (env 2) := by have := small a1 a2; omega
  simp only [e136, IE.den, den_iff, BE.P, Bool.not_true, Bool.not_false, Int.ofNat_eq_natCast, den_and, den_tmod, s_i64, n32, n64, cut32, cut0, sgn32, sgn0, t32, t64, neg1, negA, negB] at h0
  try simp only [den_add, den_sub, den_mul, den_tdiv, den_tmod, den_and, den_or, den_xor, and_low, and_31, and_63, and_lt, or_lt, xor_lt, shr_lt a1 b1, wrap_u32, wrap_u64, wrap_i32, wrap_i64, tdiv_neg1, tmod_neg1, m1, m2, m3] at h0
  first | omega | (try simp only [not_true_eq_false] at *)
theorem o122 (a1 : 0 ≤ env 1) (b1 : env 1 ≤ 18446744073709551615) (a2 : 0 ≤ env 2) (b2 : env 2 ≤ 18446744073709551615) (h0 : e143.den env = false) : False := by
  have m1 : env 1 % 18446744073709551616 = env 1 := by omega
  have m2 : env 2 % 18446744073709551616 = env 2 := by omega
  have m3 : (env 1).tmod (env 2) % 18446744073709551616 = (env 1).tmod (env 2) := by have := small a1 a2; omega
  simp only [e143, IE.den, den_iff, BE.P, Bool.not_true, Bool.not_false, Int.ofNat_eq_natCast, den_and, den_tmod, s_i64, n32, n64, cut32, cut0, sgn32, sgn0, t32, t64, neg1, negA, negB] at h0
  try simp only [den_add, den_sub, den_mul, den_tdiv, den_tmod, den_and, den_or, den_xor, and_low, and_31, and_63, and_lt, or_lt, xor_lt, shr_lt a1 b1, wrap_u32, wrap_u64, wrap_i32, wrap_i64, tdiv_neg1, tmod_neg1, m1, m2, m3] at h0
  first | omega | (try simp only [not_true_eq_false] at *)
theorem o123 (a1 : 0 ≤ env 1) (b1 : env 1 ≤ 18446744073709551615) (a2 : 0 ≤ env 2) (b2 : env 2 ≤ 18446744073709551615) (h0 : e145.den env = false) : False := by
  have m1 : env 1 % 18446744073709551616 = env 1 := by omega
  have m2 : env 2 % 18446744073709551616 = env 2 := by omega
  have m3 : (env 1).tmod (env 2) % 18446744073709551616 = (env 1).tmod (env 2) := by have := small a1 a2; omega
  simp only [e145, IE.den, den_iff, BE.P, Bool.not_true, Bool.not_false, Int.ofNat_eq_natCast, den_and, den_tmod, s_i64, n32, n64, cut32, cut0, sgn32, sgn0, t32, t64, neg1, negA, negB] at h0
  try simp only [den_add, den_sub, den_mul, den_tdiv, den_tmod, den_and, den_or, den_xor, and_low, and_31, and_63, and_lt, or_lt, xor_lt, shr_lt a1 b1, wrap_u32, wrap_u64, wrap_i32, wrap_i64, tdiv_neg1, tmod_neg1, m1, m2, m3] at h0
  first | omega | (try simp only [not_true_eq_false] at *)
theorem o124 (a1 : 0 ≤ env 1) (b1 : env 1 ≤ 18446744073709551615) (a2 : 0 ≤ env 2) (b2 : env 2 ≤ 18446744073709551615) (h0 : e147.den env = false) : False := by
  have m1 : env 1 % 18446744073709551616 = env 1 := by omega
  have m2 : env 2 % 18446744073709551616 = env 2 := by omega
  have m3 : (env 1).tmod (env 2) % 18446744073709551616 = (env 1).tmod (env 2) := by have := small a1 a2; omega
  simp only [e147, IE.den, den_iff, BE.P, Bool.not_true, Bool.not_false, Int.ofNat_eq_natCast, den_and, den_tmod, s_i64, n32, n64, cut32, cut0, sgn32, sgn0, t32, t64, neg1, negA, negB] at h0
  try simp only [den_add, den_sub, den_mul, den_tdiv, den_tmod, den_and, den_or, den_xor, and_low, and_31, and_63, and_lt, or_lt, xor_lt, shr_lt a1 b1, wrap_u32, wrap_u64, wrap_i32, wrap_i64, tdiv_neg1, tmod_neg1, m1, m2, m3] at h0
  first | omega | (try simp only [not_true_eq_false] at *)
theorem o125 (a1 : 0 ≤ env 1) (b1 : env 1 ≤ 18446744073709551615) (a2 : 0 ≤ env 2) (b2 : env 2 ≤ 18446744073709551615) (h0 : e149.den env = true) (h1 : e150.den env = false) (h2 : e151.den env = true) (h3 : e152.den env = false) (h4 : e153.den env = true) (h5 : e154.den env = false) (h6 : e155.den env = true) : False := by
  have m1 : env 1 % 18446744073709551616 = env 1 := by omega
  have m2 : env 2 % 18446744073709551616 = env 2 := by omega
  have m3 : (env 1).tmod (env 2) % 18446744073709551616 = (env 1).tmod (env 2) := by have := small a1 a2; omega
  simp only [e149, e150, e151, e152, e153, e154, e155, IE.den, den_iff, BE.P, Bool.not_true, Bool.not_false, Int.ofNat_eq_natCast, den_and, den_tmod, s_i64, n32, n64, cut32, cut0, sgn32, sgn0, t32, t64, neg1, negA, negB] at h0 h1 h2 h3 h4 h5 h6
  try simp only [den_add, den_sub, den_mul, den_tdiv, den_tmod, den_and, den_or, den_xor, and_low, and_31, and_63, and_lt, or_lt, xor_lt, shr_lt a1 b1, wrap_u32, wrap_u64, wrap_i32, wrap_i64, tdiv_neg1, tmod_neg1, m1, m2, m3] at h0 h1 h2 h3 h4 h5 h6
  first | omega | (try simp only [not_true_eq_false] at *)
theorem o126 (a1 : 0 ≤ env 1) (b1 : env 1 ≤ 18446744073709551615) (a2 : 0 ≤ env 2) (b2 : env 2 ≤ 18446744073709551615) (h0 : e149.den env = true) (h1 : e150.den env = false) (h2 : e151.den env = true) (h3 : e152.den env = false) (h4 : e153.den env = true) (h5 : e154.den env = false) (h6 : e155.den env = false) : False := by
  have m1 : env 1 % 18446744073709551616 = env 1 := by omega
  have m2 : env 2 % 18446744073709551616 = env 2 := by omega
  have m3 : (env 1).tmod (env 2) % 18446744073709551616 = (env 1).tmod (env 2) := by have := small a1 a2; omega
  simp only [e149, e150, e151, e152, e153, e154, e155, IE.den, den_iff, BE.P, Bool.not_true, Bool.not_false, Int.ofNat_eq_natCast, den_and, den_tmod, s_i64, n32, n64, cut32, cut0, sgn32, sgn0, t32, t64, neg1, negA, negB] at h0 h1 h2 h3 h4 h5 h6
  try simp only [den_add, den_sub, den_mul, den_tdiv, den_tmod, den_and, den_or, den_xor, and_low, and_31, and_63, and_lt, or_lt, xor_lt, shr_lt a1 b1, wrap_u32, wrap_u64, wrap_i32, wrap_i64, tdiv_neg1, tmod_neg1, m1, m2, m3] at h0 h1 h2 h3 h4 h5 h6
  first | omega | (try simp only [not_true_eq_false] at *)
theorem o127 (a1 : 0 ≤ env 1) (b1 : env 1 ≤ 18446744073709551615) (a2 : 0 ≤ env 2) (b2 : env 2 ≤ 18446744073709551615) (h0 : e149.den env = true) (h1 : e150.den env = false) (h2 : e151.den env = true) (h3 : e152.den env = false) (h4 : e153.den env = false) (h5 : e156.den env = true) : False := by
  have m1 : env 1 % 18446744073709551616 = env 1 := by omega
  have m2 : env 2 % 18446744073709551616 = env 2 := by omega
  have m3 : (env 1).tmod (env 2) % 18446744073709551616 = (env 1).tmod (env 2) := by have := small a1 a2; omega
  simp only [e149, e150, e151, e152, e153, e156, IE.den, den_iff, BE.P, Bool.not_true, Bool.not_false, Int.ofNat_eq_natCast, den_and, den_tmod, s_i64, n32, n64, cut32, cut0, sgn32, sgn0, t32, t64, neg1, negA, negB] at h0 h1 h2 h3 h4 h5
  try simp only [den_add, den_sub, den_mul, den_tdiv, den_tmod, den_and, den_or, den_xor, and_low, and_31, and_63, and_lt, or_lt, xor_lt, shr_lt a1 b1, wrap_u32, wrap_u64, wrap_i32, wrap_i64, tdiv_neg1, tmod_neg1, m1, m2, m3] at h0 h1 h2 h3 h4 h5
  first | omega | (try simp only [not_true_eq_false] at *)
theorem o128 (a1 : 0 ≤ env 1) (b1 : env 1 ≤ 18446744073709551615) (a2 : 0 ≤ env 2) (b2 : env 2 ≤ 18446744073709551615) (h0 : e149.den env = true) (h1 : e150.den env = false) (h2 : e151.den env = true) (h3 : e152.den env = false) (h4 : e153.den env = false) (h5 : e156.den env = false) (h6 : e157.den env = true) : False := by
  have m1 : env 1 % 18446744073709551616 = env 1 := by omega
  have m2 : env 2 % 18446744073709551616 = env 2 := by omega
  have m3 : (env 1).tmod (env 2) % 18446744073709551616 = (env 1).tmod (env 2) := by have := small a1 a2; omega
  simp only [e149, e150, e151, e152, e153, e156, e157, IE.den, den_iff, BE.P, Bool.not_true, Bool.not_false, Int.ofNat_eq_natCast, den_and, den_tmod, s_i64, n32, n64, cut32, cut0, sgn32, sgn0, t32, t64, neg1, negA, negB] at h0 h1 h2 h3 h4 h5 h6
  try simp only [den_add, den_sub, den_mul, den_tdiv, den_tmod, den_and, den_or, den_xor, and_low, and_31, and_63, and_lt, or_lt, xor_lt, shr_lt a1 b1, wrap_u32, wrap_u64, wrap_i32, wrap_i64, tdiv_neg1, tmod_neg1, m1, m2, m3] at h0 h1 h2 h3 h4 h5 h6
  first | omega | (try simp only [not_true_eq_false] at *)
theorem o129 (a1 : 0 ≤ env 1) (b1 : env 1 ≤ 18446744073709551615) (a2 : 0 ≤ env 2) (b2 : env 2 ≤ 18446744073709551615) (h0 : e149.den env = true) (h1 : e150.den env = false) (h2 : e151.den env = true) (h3 : e152.den env = false) (h4 : e153.den env = false) (h5 : e156.den env = false) (h6 : e157.den env = false) : False := by
  have m1 : env 1 % 18446744073709551616 = env 1 := by omega
  have m2 : env 2 % 18446744073709551616 = env 2 := by omega
  have m3 : (env 1).tmod (env 2) % 18446744073709551616 = (env 1).tmod (env 2) := by have := small a1 a2; omega
  simp only [e149, e150, e151, e152, e153, e156, e157, IE.den, den_iff, BE.P, Bool.not_true, Bool.not_false, Int.ofNat_eq_natCast, den_and, den_tmod, s_i64, n32, n64, cut32, cut0, sgn32, sgn0, t32, t64, neg1, negA, negB] at h0 h1 h2 h3 h4 h5 h6
  try simp only [den_add, den_sub, den_mul, den_tdiv, den_tmod, den_and, den_or, den_xor, and_low, and_31, and_63, and_lt, or_lt, xor_lt, shr_lt a1 b1, wrap_u32, wrap_u64, wrap_i32, wrap_i64, tdiv_neg1, tmod_neg1, m1, m2, m3] at h0 h1 h2 h3 h4 h5 h6
  first | omega | (try simp only [not_true_eq_false] at *)
theorem o130 (a1 : 0 ≤ env 1) (b1 : env 1 ≤ 18446744073709551615) (a2 : 0 ≤ env 2) (b2 : env 2 ≤ 18446744073709551615) (h0 : e149.den env = true) (h1 : e150.den env = false) (h2 : e151.den env = false) (h3 : e152.den env = true) (h4 : e158.den env = true) : False := by
  have m1 : env 1 % 18446744073709551616 = env 1 := by omega
  have m2 : env 2 % 18446744073709551616 = env 2 := by omega
  have m3 : (env 1).tmod (env 2) % 18446744073709551616 = (env 1).tmod (env 2) := by have := small a1 a2; omega
  simp only [e149, e150, e151, e152, e158, IE.den, den_iff, BE.P, Bool.not_true, Bool.not_false, Int.ofNat_eq_natCast, den_and, den_tmod, s_i64, n32, n64, cut32, cut0, sgn32, sgn0, t32, t64, neg1, negA, negB] at h0 h1 h2 h3 h4
  try simp only [den_add, den_sub, den_mul, den_tdiv, den_tmod, den_and, den_or, den_xor, and_low, and_31, and_63, and_lt, or_lt, xor_lt, shr_lt a1 b1, wrap_u32, wrap_u64, wrap_i32, wrap_i64, tdiv_neg1, tmod_neg1, m1, m2, m3] at h0 h1 h2 h3 h4
  first | omega | (try simp only [not_true_eq_false] at *)
theorem o131 (a1 : 0 ≤ env 1) (b1 : env 1 ≤ 18446744073709551615) (a2 : 0 ≤ env 2) (b2 : env 2 ≤ 18446744073709551615) (h0 : e149.den env = true) (h1 : e150.den env = false) (h2 : e151.den env = false) (h3 : e152.den env = true) (h4 : e158.den env = false) : False := by
  have m1 : env 1 % 18446744073709551616 = env 1 := by omega
  have m2 : env 2 % 18446744073709551616 = env 2 := by omega
  have m3 : (env 1).tmod (env 2) % 18446744073709551616 = (env 1).tmod (env 2) := by have := small a1 a2; omega
  simp only [e149, e150, e151, e152, e158, IE.den, den_iff, BE.P, Bool.not_true, Bool.not_false, Int.ofNat_eq_natCast, den_and, den_tmod, s_i64, n32, n64, cut32, cut0, sgn32, sgn0, t32, t64, neg1, negA, negB] at h0 h1 h2 h3 h4
  try simp only [den_add, den_sub, den_mul, den_tdiv, den_tmod, den_and, den_or, den_xor, and_low, and_31, and_63, and_lt, or_lt, xor_lt, shr_lt a1 b1, wrap_u32, wrap_u64, wrap_i32, wrap_i64, tdiv_neg1, tmod_neg1, m1, m2, m3] at h0 h1 h2 h3 h4
  first | omega | (try simp only [not_true_eq_false] at *)
theorem o132 (a1 : 0 ≤ env 1) (b1 : env 1 ≤ 18446744073709551615) (a2 : 0 ≤ env 2) (b2 : env 2 ≤ 18446744073709551615) (h0 : e149.den env = true) (h1 : e150.den env = false) (h2 : e151.den env = false) (h3 : e152.den env = false) (h4 : e153.den env = true) (h5 : e154.den env = true) (h6 : e158.den env = true) : False := by
  have m1 : env 1 % 18446744073709551616 = env 1 := by omega
  have m2 : env 2 % 18446744073709551616 = env 2 := by omega
  have m3 : (env 1).tmod (env 2) % 18446744073709551616 = (env 1).tmod (env 2) := by have := small a1 a2; omega
  simp only [e149, e150, e151, e152, e153, e154, e158, IE.den, den_iff, BE.P, Bool.not_true, Bool.not_false, Int.ofNat_eq_natCast, den_and, den_tmod, s_i64, n32, n64, cut32, cut0, sgn32, sgn0, t32, t64, neg1, negA, negB] at h0 h1 h2 h3 h4 h5 h6
  try simp only [den_add, den_sub, den_mul, den_tdiv, den_tmod, den_and, den_or, den_xor, and_low, and_31, and_63, and_lt, or_lt, xor_lt, shr_lt a1 b1, wrap_u32, wrap_u64, wrap_i32, wrap_i64, tdiv_neg1, tmod_neg1, m1, m2, m3] at h0 h1 h2 h3 h4 h5 h6
  first | omega | (try simp only [not_true_eq_false] at *)
theorem o133 (a1 : 0 ≤ env 1) (b1 : env 1 ≤ 18446744073709551615) (a2 : 0 ≤ env 2) (b2 : env 2 ≤ 18446744073709551615) (h0 : e149.den env = true) (h1 : e150.den env = false) (h2 : e151.den env = false) (h3 : e152.den env = false) (h4 : e153.den env = true) (h5 : e154.den env = true) (h6 : e158.den env = false) : False := by
  have m1 : env 1 % 18446744073709551616 = env 1 := by omega
  have m2 : env 2 % 18446744073709551616 = env 2 := by omega
  have m3 : (env 1).tmod (env 2) % 18446744073709551616 = (env 1).tmod (env 2) := by have := small a1 a2; omega
  simp only [e149, e150, e151, e152, e153, e154, e158, IE.den, den_iff, BE.P, Bool.not_true, Bool.not_false, Int.ofNat_eq_natCast, den_and, den_tmod, s_i64, n32, n64, cut32, cut0, sgn32, sgn0, t32, t64, neg1, negA, negB] at h0 h1 h2 h3 h4 h5 h6
  try simp only [den_add, den_sub, den_mul, den_tdiv, den_tmod, den_and, den_or, den_xor, and_low, and_31, and_63, and_lt, or_lt, xor_lt, shr_lt a1 b1, wrap_u32, wrap_u64, wrap_i32, wrap_i64, tdiv_neg1, tmod_neg1, m1, m2, m3] at h0 h1 h2 h3 h4 h5 h6
  first | omega | (try simp only [not_true_eq_false] at *)
theorem o134 (a1 : 0 ≤ env 1) (b1 : env 1 ≤ 18446744073709551615) (a2 : 0 ≤ env 2) (b2 : env 2 ≤ 18446744073709551615) (h0 : e149.den env = true) (h1 : e150.den env = false) (h2 : e151.den env = false) (h3 : e152.den env = false) (h4 : e153.den env = true) (h5 : e154.den env = false) (h6 : e159.den env = false) : False := by
  have m1 : env 1 % 18446744073709551616 = env 1 := by omega
  have m2 : env 2 % 18446744073709551616 = env 2 := by omega
  have m3 : (env 1).tmod (env 2) % 18446744073709551616 = (env 1).tmod (env 2) := by have := small a1 a2; omega
  simp only [e149, e150, e151, e152, e153, e154, e159, IE.den, den_iff, BE.P, Bool.not_true, Bool.not_false, Int.ofNat_eq_natCast, den_and, den_tmod, s_i64, n32, n64, cut32, cut0, sgn32, sgn0, t32, t64, neg1, negA, negB] at h0 h1 h2 h3 h4 h5 h6
  try simp only [den_add, den_sub, den_mul, den_tdiv, den_tmod, den_and, den_or, den_xor, and_low, and_31, and_63, and_lt, or_lt, xor_lt, shr_lt a1 b1, wrap_u32, wrap_u64, wrap_i32, wrap_i64, tdiv_neg1, tmod_neg1, m1, m2, m3] at h0 h1 h2 h3 h4 h5 h6
  first | omega | (try simp only [not_true_eq_false] at *)
theorem o135 (a1 : 0 ≤ env 1) (b1 : env 1 ≤ 18446744073709551615) (a2 : 0 ≤ env 2) (b2 : env 2 ≤ 18446744073709551615) (h0 : e149.den env = true) (h1 : e150.den env = false) (h2 : e151.den env = false) (h3 : e152.den env = false) (h4 : e153.den env = false) (h5 : e156.den env = true) : False := by
  have m1 : env 1 % 18446744073709551616 = env 1 := by omega
  have m2 : env 2 % 18446744073709551616 = env 2 := by omega
  have m3 : (env 1).tmod (env 2) % 18446744073709551616 = (env 1).tmod (env 2) := by have := small a1 a2; omega
  simp only [e149, e150, e151, e152, e153, e156, IE.den, den_iff, BE.P, Bool.not_true, Bool.not_false, Int.ofNat_eq_natCast, den_and, den_tmod, s_i64, n32, n64, cut32, cut0, sgn32, sgn0, t32, t64, neg1, negA, negB] at h0 h1 h2 h3 h4 h5
  try simp only [den_add, den_sub, den_mul, den_tdiv, den_tmod, den_and, den_or, den_xor, and_low, and_31, and_63, and_lt, or_lt, xor_lt, shr_lt a1 b1, wrap_u32, wrap_u64, wrap_i32, wrap_i64, tdiv_neg1, tmod_neg1, m1, m2, m3] at h0 h1 h2 h3 h4 h5
  first | omega | (try simp only [not_true_eq_false] at *)
theorem o136 (a1 : 0 ≤ env 1) (b1 : env 1 ≤ 18446744073709551615) (a2 : 0 ≤ env 2) (b2 : env 2 ≤ 18446744073709551615) (h0 : e149.den env = true) (h1 : e150.den env = false) (h2 : e151.den env = false) (h3 : e152.den env = false) (h4 : e153.den env = false) (h5 : e156.den env = false) (h6 : e160.den env = false) : False := by
  have m1 : env 1 % 18446744073709551616 = env 1 := by omega
  have m2 : env 2 % 18446744073709551616 = env 2 := by omega
  have m3 : (env 1).tmod (env 2) % 18446744073709551616 = (env 1).tmod (env 2) := by have := small a1 a2; omega
  simp only [e149, e150, e151, e152, e153, e156, e160, IE.den, den_iff, BE.P, Bool.not_true, Bool.not_false, Int.ofNat_eq_natCast, den_and, den_tmod, s_i64, n32, n64, cut32, cut0, sgn32, sgn0, t32, t64, neg1, negA, negB] at h0 h1 h2 h3 h4 h5 h6
  try simp only [den_add, den_sub, den_mul, den_tdiv, den_tmod, den_and, den_or, den_xor, and_low, and_31, and_63, and_lt, or_lt, xor_lt, shr_lt a1 b1, wrap_u32, wrap_u64, wrap_i32, wrap_i64, tdiv_neg1, tmod_neg1, m1, m2, m3] at h0 h1 h2 h3 h4 h5 h6
  first | omega | (try simp only [not_true_eq_false] at *)
theorem o137 (a1 : 0 ≤ env 1) (b1 : env 1 ≤ 18446744073709551615) (a2 : 0 ≤ env 2) (b2 : env 2 ≤ 18446744073709551615) (h0 : e149.den env = false) (h1 : e150.den env = false) (h2 : e161.den env = true) : False := by
  have m1 : env 1 % 18446744073709551616 = env 1 := by omega
  have m2 : env 2 % 18446744073709551616 = env 2 := by omega
  have m3 : (env 1).tmod (env 2) % 18446744073709551616 = (env 1).tmod (env 2) := by have := small a1 a2; omega
  simp only [e149, e150, e161, IE.den, den_iff, BE.P, Bool.not_true, Bool.not_false, Int.ofNat_eq_natCast, den_and, den_tmod, s_i64, n32, n64, cut32, cut0, sgn32, sgn0, t32, t64, neg1, negA, negB] at h0 h1 h2
  try simp only [den_add, den_sub, den_mul, den_tdiv, den_tmod, den_and, den_or, den_xor, and_low, and_31, and_63, and_lt, or_lt, xor_lt, shr_lt a1 b1, wrap_u32, wrap_u64, wrap_i32, wrap_i64, tdiv_neg1, tmod_neg1, m1, m2, m3] at h0 h1 h2
  first | omega | (try simp only [not_true_eq_false] at *)
theorem o138 (a1 : 0 ≤ env 1) (b1 : env 1 ≤ 18446744073709551615) (a2 : 0 ≤ env 2) (b2 : env 2 ≤ 18446744073709551615) (h0 : e149.den env = false) (h1 : e150.den env = false) (h2 : e161.den env = false) (h3 : e152.den env = true) (h4 : e162.den env = true) : False := by
  have m1 : env 1 % 18446744073709551616 = env 1 := by omega
  have m2 : env 2 % 18446744073709551616 = env 2 := by omega
  have m3 : (env 1).tmod (env 2) % 18446744073709551616 = (env 1).tmod (env 2) := by have := small a1 a2; omega
  simp only [e149, e150, e161, e152, e162, IE.den, den_iff, BE.P, Bool.not_true, Bool.not_false, Int.ofNat_eq_natCast, den_and, den_tmod, s_i64, n32, n64, cut32, cut0, sgn32, sgn0, t32, t64, neg1, negA, negB] at h0 h1 h2 h3 h4
  try simp only [den_add, den_sub, den_mul, den_tdiv, den_tmod, den_and, den_or, den_xor, and_low, and_31, and_63, and_lt, or_lt, xor_lt, shr_lt a1 b1, wrap_u32, wrap_u64, wrap_i32, wrap_i64, tdiv_neg1, tmod_neg1, m1, m2, m3] at h0 h1 h2 h3 h4
  first | omega | (try simp only [not_true_eq_false] at *)
theorem o139 (a1 : 0 ≤ env 1) (b1 : env 1 ≤ 18446744073709551615) (a2 : 0 ≤ env 2) (b2 : env 2 ≤ 18446744073709551615) (h0 : e149.den env = false) (h1 : e150.den env = false) (h2 : e161.den env = false) (h3 : e152.den env = true) (h4 : e162.den env = false) : False := by
  have m1 : env 1 % 18446744073709551616 = env 1 := by omega
  have m2 : env 2 % 18446744073709551616 = env 2 := by omega
  have m3 : (env 1).tmod (env 2) % 18446744073709551616 = (env 1).tmod (env 2) := by have := small a1 a2; omega
  simp only [e149, e150, e161, e152, e162, IE.den, den_iff, BE.P, Bool.not_true, Bool.not_false, Int.ofNat_eq_natCast, den_and, den_tmod, s_i64, n32, n64, cut32, cut0, sgn32, sgn0, t32, t64, neg1, negA, negB] at h0 h1 h2 h3 h4
  try simp only [den_add, den_sub, den_mul, den_tdiv, den_tmod, den_and, den_or, den_xor, and_low, and_31, and_63, and_lt, or_lt, xor_lt, shr_lt a1 b1, wrap_u32, wrap_u64, wrap_i32, wrap_i64, tdiv_neg1, tmod_neg1, m1, m2, m3] at h0 h1 h2 h3 h4
  first | omega | (try simp only [not_true_eq_false] at *)
theorem o140 (a1 : 0 ≤ env 1) (b1 : env 1 ≤ 18446744073709551615) (a2 : 0 ≤ env 2) (b2 : env 2 ≤ 18446744073709551615) (h0 : e149.den env = false) (h1 : e150.den env = false) (h2 : e161.den env = false) (h3 : e152.den env = false) (h4 : e153.den env = true) (h5 : e154.den env = true) (h6 : e162.den env = true) : False := by
  have m1 : env 1 % 18446744073709551616 = env 1 := by omega
  have m2 : env 2 % 18446744073709551616 = env 2 := by omega
  have m3 : (env 1).tmod (env 2) % 18446744073709551616 = (env 1).tmod (env 2) := by have := small a1 a2; omega
  simp only [e149, e150, e161, e152, e153, e154, e162, IE.den, den_iff, BE.P, Bool.not_true, Bool.not_false, Int.ofNat_eq_natCast, den_and, den_tmod, s_i64, n32, n64, cut32, cut0, sgn32, sgn0, t32, t64, neg1, negA, negB] at h0 h1 h2 h3 h4 h5 h6
  try simp only [den_add, den_sub, den_mul, den_tdiv, den_tmod, den_and, den_or, den_xor, and_low, and_31, and_63, and_lt, or_lt, xor_lt, shr_lt a1 b1, wrap_u32, wrap_u64, wrap_i32, wrap_i64, tdiv_neg1, tmod_neg1, m1, m2, m3] at h0 h1 h2 h3 h4 h5 h6
  first | omega | (try simp only [not_true_eq_false] at *)
theorem o141 (a1 : 0 ≤ env 1) (b1 : env 1 ≤ 18446744073709551615) (a2 : 0 ≤ env 2) (b2 : env 2 ≤ 18446744073709551615) (h0 : e149.den env = false) (h1 : e150.den env = false) (h2 : e161.den env = false) (h3 : e152.den env = false) (h4 : e153.den env = true) (h5 : e154.den env = true) (h6 : e162.den env = false) : False := by
  have m1 : env 1 % 18446744073709551616 = env 1 := by omega
  have m2 : env 2 % 18446744073709551616 = env 2 := by omega
  have m3 : (env 1).tmod (env 2) % 18446744073709551616 = (env 1).tmod (env 2) := by have := small a1 a2; omega
  simp only [e149, e150, e161, e152, e153, e154, e162, IE.den, den_iff, BE.P, Bool.not_true, Bool.not_false, Int.ofNat_eq_natCast, den_and, den_tmod, s_i64, n32, n64, cut32, cut0, sgn32, sgn0, t32, t64, neg1, negA, negB] at h0 h1 h2 h3 h4 h5 h6
  try simp only [den_add, den_sub, den_mul, den_tdiv, den_tmod, den_and, den_or, den_xor, and_low, and_31, and_63, and_lt, or_lt, xor_lt, shr_lt a1 b1, wrap_u32, wrap_u64, wrap_i32, wrap_i64, tdiv_neg1, tmod_neg1, m1, m2, m3] at h0 h1 h2 h3 h4 h5 h6
  first | omega | (try simp only [not_true_eq_false] at *)
theorem o142 (a1 : 0 ≤ env 1) (b1 : env 1 ≤ 18446744073709551615) (a2 : 0 ≤ env 2) (b2 : env 2 ≤ 18446744073709551615) (h0 : e149.den env = false) (h1 : e150.den env = false) (h2 : e161.den env = false) (h3 : e152.den env = false) (h4 : e153.den env = true) (h5 : e154.den env = false) (h6 : e163.den env = false) : False := by
  have m1 : env 1 % 18446744073709551616 = env 1 := by omega
  have m2 : env 2 % 18446744073709551616 = env 2 := by omega
  have m3 : (env 1).tmod (env 2) % 18446744073709551616 = (env 1).tmod (env 2) := by have := small a1 a2; omega
  simp only [e149, e150, e161, e152, e153, e154, e163, IE.den, den_iff, BE.P, Bool.not_true, Bool.not_false, Int.ofNat_eq_natCast, den_and, den_tmod, s_i64, n32, n64, cut32, cut0, sgn32, sgn0, t32, t64, neg1, negA, negB] at h0 h1 h2 h3 h4 h5 h6
  try simp only [den_add, den_sub, den_mul, den_tdiv, den_tmod, den_and, den_or, den_xor, and_low, and_31, and_63, and_lt, or_lt, xor_lt, shr_lt a1 b1, wrap_u32, wrap_u64, wrap_i32, wrap_i64, tdiv_neg1, tmod_neg1, m1, m2, m3] at h0 h1 h2 h3 h4 h5 h6
  first | omega | (try simp only [not_true_eq_false] at *)
theorem o143 (a1 : 0 ≤ env 1) (b1 : env 1 ≤ 18446744073709551615) (a2 : 0 ≤ env 2) (b2 : env 2 ≤ 18446744073709551615) (h0 : e149.den env = false) (h1 : e150.den env = false) (h2 : e161.den env = false) (h3 : e152.den env = false) (h4 : e153.den env = false) (h5 : e156.den env = true) : False := by
  have m1 : env 1 % 18446744073709551616 = env 1 := by omega
  have m2 : env 2 % 18446744073709551616 = env 2 := by omega
  have m3 : (env 1).tmod (env 2) % 18446744073709551616 = (env 1).tmod (env 2) := by have := small a1 a2; omega
  simp only [e149, e150, e161, e152, e153, e156, IE.den, den_iff, BE.P, Bool.not_true, Bool.not_false, Int.ofNat_eq_natCast, den_and, den_tmod, s_i64, n32, n64, cut32, cut0, sgn32, sgn0, t32, t64, neg1, negA, negB] at h0 h1 h2 h3 h4 h5
  try simp only [den_add, den_sub, den_mul, den_tdiv, den_tmod, den_and, den_or, den_xor, and_low, and_31, and_63, and_lt, or_lt, xor_lt, shr_lt a1 b1, wrap_u32, wrap_u64, wrap_i32, wrap_i64, tdiv_neg1, tmod_neg1, m1, m2, m3] at h0 h1 h2 h3 h4 h5
  first | omega | (try simp only [not_true_eq_false] at *)
theorem o144 (a1 : 0 ≤ env 1) (b1 : env 1 ≤ 18446744073709551615) (a2 : 0 ≤ env 2) (b2 : env 2 ≤ 18446744073709551615) (h0 : e149.den env = false) (h1 : e150.den env = false) (h2 : e161.den env = false) (h3 : e152.den env = false) (h4 : e153.den env = false) (h5 : e156.den env = false) (h6 : e164.den env = false) : False := by
  have m1 : env 1 % 18446744073709551616 = env 1 := by omega
  have m2 : env 2 % 18446744073709551616 = env 2 := by omega
  have m3 : (env 1).tmod (env 2) % 18446744073709551616 = (env 1).tmod (env 2) := by have := small a1 a2; omega
  simp only [e149, e150, e161, e152, e153, e156, e164, IE.den, den_iff, BE.P, Bool.not_true, Bool.not_false, Int.ofNat_eq_natCast, den_and, den_tmod, s_i64, n32, n64, cut32, cut0, sgn32, sgn0, t32, t64, neg1, negA, negB] at h0 h1 h2 h3 h4 h5 h6
  try simp only [den_add, den_sub, den_mul, den_tdiv, den_tmod, den_and, den_or, den_xor, and_low, and_31, and_63, and_lt, or_lt, xor_lt, shr_lt a1 b1, wrap_u32, wrap_u64, wrap_i32, wrap_i64, tdiv_neg1, tmod_neg1, m1, m2, m3] at h0 h1 h2 h3 h4 h5 h6
  first | omega | (try simp only [not_true_eq_false] at *)
theorem o145 (a1 : 0 ≤ env 1) (b1 : env 1 ≤ 18446744073709551615) (a2 : 0 ≤ env 2) (b2 : env 2 ≤ 18446744073709551615) (h0 : e149.den env = true) (h1 : e150.den env = false) (h2 : e152.den env = true) (h3 : e166.den env = true) : False := by
  have m1 : env 1 % 18446744073709551616 = env 1 := by omega
  have m2 : env 2 % 18446744073709551616 = env 2 := by omega
  have m3 : (env 1).tmod (env 2) % 18446744073709551616 = (env 1).tmod (env 2) := by have := small a1 a2; omega
  simp only [e149, e150, e152, e166, IE.den, den_iff, BE.P, Bool.not_true, Bool.not_false, Int.ofNat_eq_natCast, den_and, den_tmod, s_i64, n32, n64, cut32, cut0, sgn32, sgn0, t32, t64, neg1, negA, negB] at h0 h1 h2 h3
  try simp only [den_add, den_sub, den_mul, den_tdiv, den_tmod, den_and, den_or, den_xor, and_low, and_31, and_63, and_lt, or_lt, xor_lt, shr_lt a1 b1, wrap_u32, wrap_u64, wrap_i32, wrap_i64, tdiv_neg1, tmod_neg1, m1, m2, m3] at h0 h1 h2 h3
  first | omega | (try simp only [not_true_eq_false] at *)
theorem o146 (a1 : 0 ≤ env 1) (b1 : env 1 ≤ 18446744073709551615) (a2 : 0 ≤ env 2) (b2 : env 2 ≤ 18446744073709551615) (h0 : e149.den env = true) (h1 : e150.den env = false) (h2 : e152.den env = true) (h3 : e166.den env = false) : False := by
  have m1 : env 1 % 18446744073709551616 = env 1 := by omega
  have m2 : env 2 % 18446744073709551616 = env 2 := by omega
  have m3 : (env 1).tmod (env 2) % 18446744073709551616 = (env 1).tmod (env 2) := by have := small a1 a2; omega
  simp only [e149, e150, e152, e166, IE.den, den_iff, BE.P, Bool.not_true, Bool.not_false, Int.ofNat_eq_natCast, den_and, den_tmod, s_i64, n32, n64, cut32, cut0, sgn32, sgn0, t32, t64, neg1, negA, negB] at h0 h1 h2 h3
  try simp only [den_add, den_sub, den_mul, den_tdiv, den_tmod, den_and, den_or, den_xor, and_low, and_31, and_63, and_lt, or_lt, xor_lt, shr_lt a1 b1, wrap_u32, wrap_u64, wrap_i32, wrap_i64, tdiv_neg1, tmod_neg1, m1, m2, m3] at h0 h1 h2 h3
  first | omega | (try simp only [not_true_eq_false] at *)
theorem o147 (a1 : 0 ≤ env 1) (b1 : env 1 ≤ 18446744073709551615) (a2 : 0 ≤ env 2) (b2 : env 2 ≤ 18446744073709551615) (h0 : e149.den env = true) (h1 : e150.den env = false) (h2 : e152.den env = false) (h3 : e167.den env = false) : False := by
  have m1 : env 1 % 18446744073709551616 = env 1 := by omega
  have m2 : env 2 % 18446744073709551616 = env 2 := by omega
  have m3 : (env 1).tmod (env 2) % 18446744073709551616 = (env 1).tmod (env 2) := by have := small a1 a2; omega
  simp only [e149, e150, e152, e167, IE.den, den_iff, BE.P, Bool.not_true, Bool.not_false, Int.ofNat_eq_natCast, den_and, den_tmod, s_i64, n32, n64, cut32, cut0, sgn32, sgn0, t32, t64, neg1, negA, negB] at h0 h1 h2 h3
  try simp only [den_add, den_sub, den_mul, den_tdiv, den_tmod, den_and, den_or, den_xor, and_low, and_31, and_63, and_lt, or_lt, xor_lt, shr_lt a1 b1, wrap_u32, wrap_u64, wrap_i32, wrap_i64, tdiv_neg1, tmod_neg1, m1, m2, m3] at h0 h1 h2 h3
  first | omega | (try simp only [not_true_eq_false] at *)
theorem o148 (a1 : 0 ≤ env 1) (b1 : env 1 ≤ 18446744073709551615) (a2 : 0 ≤ env 2) (b2 : env 2 ≤ 18446744073709551615) (h0 : e149.den env = false) (h1 : e150.den env = false) (h2 : e152.den env = true) (h3 : e166.den env = true) : False := by
  have m1 : env 1 % 18446744073709551616 = env 1 := by omega
  have m2 : env 2 % 18446744073709551616 = env 2 := by omega
  have m3 : (env 1).tmod (env 2) % 18446744073709551616 = (env 1).tmod (env 2) := by have := small a1 a2; omega
  simp only [e149, e150, e152, e166, IE.den, den_iff, BE.P, Bool.not_true, Bool.not_false, Int.ofNat_eq_natCast, den_and, den_tmod, s_i64, n32, n64, cut32, cut0, sgn32, sgn0, t32, t64, neg1, negA, negB] at h0 h1 h2 h3
  try simp only [den_add, den_sub, den_mul, den_tdiv, den_tmod, den_and, den_or, den_xor, and_low, and_31, and_63, and_lt, or_lt, xor_lt, shr_lt a1 b1, wrap_u32, wrap_u64, wrap_i32, wrap_i64, tdiv_neg1, tmod_neg1, m1, m2, m3] at h0 h1 h2 h3
  first | omega | (try simp only [not_true_eq_false] at *)
theorem o149 (a1 : 0 ≤ env 1) (b1 : env 1 ≤ 18446744073709551615) (a2 : 0 ≤ env 2) (b2 : env 2 ≤ 18446744073709551615) (h0 : e149.den env = false) (h1 : e150.den env = false) (h2 : e152.den env = true) (h3 : e166.den env = false) : False := by
  have m1 : env 1 % 18446744073709551616 = env 1 := by omega
  have m2 : env 2 % 18446744073709551616 = env 2 := by omega
  have m3 : (env 1).tmod (env 2) % 18446744073709551616 = (env 1).tmod (env 2) := by have := small a1 a2; omega
  simp only [e149, e150, e152, e166, IE.den, den_iff, BE.P, Bool.not_true, Bool.not_false, Int.ofNat_eq_natCast, den_and, den_tmod, s_i64, n32, n64, cut32, cut0, sgn32, sgn0, t32, t64, neg1, negA, negB] at h0 h1 h2 h3
  try simp only [den_add, den_sub, den_mul, den_tdiv, den_tmod, den_and, den_or, den_xor, and_low, and_31, and_63, and_lt, or_lt, xor_lt, shr_lt a1 b1, wrap_u32, wrap_u64, wrap_i32, wrap_i64, tdiv_neg1, tmod_neg1, m1, m2, m3] at h0 h1 h2 h3
  first | omega | (try simp only [not_true_eq_false] at *)
theorem o150 (a1 : 0 ≤ env 1) (b1 : env 1 ≤ 18446744073709551615) (a2 : 0 ≤ env 2) (b2 : env 2 ≤ 18446744073709551615) (h0 : e149.den env = false) (h1 : e150.den env = false) (h2 : e152.den env = false) (h3 : e167.den env = false) : False := by
  have m1 : env 1 % 18446744073709551616 = env 1 := by omega
  have m2 : env 2 % 18446744073709551616 = env 2 := by omega
  have m3 : (env 1).tmod (env 2) % 18446744073709551616 = (env 1).tmod (env 2) := by have := small a1 a2; omega
  simp only [e149, e150, e152, e167, IE.den, den_iff, BE.P, Bool.not_true, Bool.not_false, Int.ofNat_eq_natCast, den_and, den_tmod, s_i64, n32, n64, cut32, cut0, sgn32, sgn0, t32, t64, neg1, negA, negB] at h0 h1 h2 h3
  try simp only [den_add, den_sub, den_mul, den_tdiv, den_tmod, den_and, den_or, den_xor, and_low, and_31, and_63, and_lt, or_lt, xor_lt, shr_lt a1 b1, wrap_u32, wrap_u64, wrap_i32, wrap_i64, tdiv_neg1, tmod_neg1, m1, m2, m3] at h0 h1 h2 h3
  first | omega | (try simp only [not_true_eq_false] at *)
theorem o151 (a1 : 0 ≤ env 1) (b1 : env 1 ≤ 18446744073709551615) (a2 : 0 ≤ env 2) (b2 : env 2 ≤ 18446744073709551615) (h0 : e149.den env = true) (h1 : e150.den env = false) (h2 : e152.den env = true) : False := by
  have m1 : env 1 % 18446744073709551616 = env 1 := by omega
  have m2 : env 2 % 18446744073709551616 = env 2 := by omega
  have m3 : (env 1).tmod (env 2) % 18446744073709551616 = (env 1).tmod (env 2) := by have := small a1 a2; omega
  simp only [e149, e150, e152, IE.den, den_iff, BE.P, Bool.not_true, Bool.not_false, Int.ofNat_eq_natCast, den_and, den_tmod, s_i64, n32, n64, cut32, cut0, sgn32, sgn0, t32, t64, neg1, negA, negB] at h0 h1 h2
  try simp only [den_add, den_sub, den_mul, den_tdiv, den_tmod, den_and, den_or, den_xor, and_low, and_31, and_63, and_lt, or_lt, xor_lt, shr_lt a1 b1, wrap_u32, wrap_u64, wrap_i32, wrap_i64, tdiv_neg1, tmod_neg1, m1, m2, m3] at h0 h1 h2
  first | omega | (try simp only [not_true_eq_false] at *)
theorem o152 (a1 : 0 ≤ env 1) (b1 : env 1 ≤ 18446744073709551615) (a2 : 0 ≤ env 2) (b2 : env 2 ≤ 18446744073709551615) (h0 : e149.den env = true) (h1 : e150.den env = false) (h2 : e152.den env = false) (h3 : e153.den env = false) (h4 : e156.den env = true) : False := by
  have m1 : env 1 % 18446744073709551616 = env 1 := by omega
  have m2 : env 2 % 18446744073709551616 = env 2 := by omega
  have m3 : (env 1).tmod (env 2) % 18446744073709551616 = (env 1).tmod (env 2) := by have := small a1 a2; omega
  simp only [e149, e150, e152, e153, e156, IE.den, den_iff, BE.P, Bool.not_true, Bool.not_false, Int.ofNat_eq_natCast, den_and, den_tmod, s_i64, n32, n64, cut32, cut0, sgn32, sgn0, t32, t64, neg1, negA, negB] at h0 h1 h2 h3 h4
  try simp only [den_add, den_sub, den_mul, den_tdiv, den_tmod, den_and, den_or, den_xor, and_low, and_31, and_63, and_lt, or_lt, xor_lt, shr_lt a1 b1, wrap_u32, wrap_u64, wrap_i32, wrap_i64, tdiv_neg1, tmod_neg1, m1, m2, m3] at h0 h1 h2 h3 h4
  first | omega | (try simp only [not_true_eq_false] at *)
theorem o153 (a1 : 0 ≤ env 1) (b1 : env 1 ≤ 18446744073709551615) (a2 : 0 ≤ env 2) (b2 : env 2 ≤ 18446744073709551615) (h0 : e149.den env = true) (h1 : e150.den env = false) (h2 : e152.den env = false) (h3 : e153.den env = false) (h4 : e156.den env = false) (h5 : e169.den env = false) : False := by
  have m1 : env 1 % 18446744073709551616 = env 1 := by omega
  have m2 : env 2 % 18446744073709551616 = env 2 := by omega
  have m3 : (env 1).tmod (env 2) % 18446744073709551616 = (env 1).tmod (env 2) := by have := small a1 a2; omega
  simp only [e149, e150, e152, e153, e156, e169, IE.den, den_iff, BE.P, Bool.not_true, Bool.not_false, Int.ofNat_eq_natCast, den_and, den_tmod, s_i64, n32, n64, cut32, cut0, sgn32, sgn0, t32, t64, neg1, negA, negB] at h0 h1 h2 h3 h4 h5
  try simp only [den_add, den_sub, den_mul, den_tdiv, den_tmod, den_and, den_or, den_xor, and_low, and_31, and_63, and_lt, or_lt, xor_lt, shr_lt a1 b1, wrap_u32, wrap_u64, wrap_i32, wrap_i64, tdiv_neg1, tmod_neg1, m1, m2, m3] at h0 h1 h2 h3 h4 h5
  first | omega | (try simp only [not_true_eq_false] at *)
theorem o154 (a1 : 0 ≤ env 1) (b1 : env 1 ≤ 18446744073709551615) (a2 : 0 ≤ env 2) (b2 : env 2 ≤ 18446744073709551615) (h0 : e149.den env = false) (h1 : e150.den env = false) (h2 : e161.den env = false) (h3 : e152.den env = true) (h4 : e170.den env = true) : False := by
  have m1 : env 1 % 18446744073709551616 = env 1 := by omega
  have m2 : env 2 % 18446744073709551616 = env 2 := by omega
  have m3 : (env 1).tmod (env 2) % 18446744073709551616 = (env 1).tmod (env 2) := by have := small a1 a2; omega
  simp only [e149, e150, e161, e152, e170, IE.den, den_iff, BE.P, Bool.not_true, Bool.not_false, Int.ofNat_eq_natCast, den_and, den_tmod, s_i64, n32, n64, cut32, cut0, sgn32, sgn0, t32, t64, neg1, negA, negB] at h0 h1 h2 h3 h4
  try simp only [den_add, den_sub, den_mul, den_tdiv, den_tmod, den_and, den_or, den_xor, and_low, and_31, and_63, and_lt, or_lt, xor_lt, shr_lt a1 b1, wrap_u32, wrap_u64, wrap_i32, wrap_i64, tdiv_neg1, tmod_neg1, m1, m2, m3] at h0 h1 h2 h3 h4
  first | omega | (try simp only [not_true_eq_false] at *)
theorem o155 (a1 : 0 ≤ env 1) (b1 : env 1 ≤ 18446744073709551615) (a2 : 0 ≤ env 2) (b2 : env 2 ≤ 18446744073709551615) (h0 : e149.den env = false) (h1 : e150.den env = false) (h2 : e161.den env = false) (h3 : e152.den env = true) (h4 : e170.den env = false) : False := by
  have m1 : env 1 % 18446744073709551616 = env 1 := by omega
  have m2 : env 2 % 18446744073709551616 = env 2 := by omega
  have m3 : (env 1).tmod (env 2) % 18446744073709551616 = (env 1).tmod (env 2) := by have := small a1 a2; omega
  simp only [e149, e150, e161, e152, e170, IE.den, den_iff, BE.P, Bool.not_true, Bool.not_false, Int.ofNat_eq_natCast, den_and, den_tmod, s_i64, n32, n64, cut32, cut0, sgn32, sgn0, t32, t64, neg1, negA, negB] at h0 h1 h2 h3 h4
  try simp only [den_add, den_sub, den_mul, den_tdiv, den_tmod, den_and, den_or, den_xor, and_low, and_31, and_63, and_lt, or_lt, xor_lt, shr_lt a1 b1, wrap_u32, wrap_u64, wrap_i32, wrap_i64, tdiv_neg1, tmod_neg1, m1, m2, m3] at h0 h1 h2 h3 h4
  first | omega | (try simp only [not_true_eq_false] at *)
theorem o156 (a1 : 0 ≤ env 1) (b1 : env 1 ≤ 18446744073709551615) (a2 : 0 ≤ env 2) (b2 : env 2 ≤ 18446744073709551615) (h0 : e149.den env = false) (h1 : e150.den env = false) (h2 : e161.den env = false) (h3 : e152.den env = false) (h4 : e153.den env = true) (h5 : e170.den env = false) : False := by
  have m1 : env 1 % 18446744073709551616 = env 1 := by omega
  have m2 : env 2 % 18446744073709551616 = env 2 := by omega
  have m3 : (env 1).tmod (env 2) % 18446744073709551616 = (env 1).tmod (env 2) := by have := small a1 a2; omega
  simp only [e149, e150, e161, e152, e153, e170, IE.den, den_iff, BE.P, Bool.not_true, Bool.not_false, Int.ofNat_eq_natCast, den_and, den_tmod, s_i64, n32, n64, cut32, cut0, sgn32, sgn0, t32, t64, neg1, negA, negB] at h0 h1 h2 h3 h4 h5
  try simp only [den_add, den_sub, den_mul, den_tdiv, den_tmod, den_and, den_or, den_xor, and_low, and_31, and_63, and_lt, or_lt, xor_lt, shr_lt a1 b1, wrap_u32, wrap_u64, wrap_i32, wrap_i64, tdiv_neg1, tmod_neg1, m1, m2, m3] at h0 h1 h2 h3 h4 h5
  first | omega | (try simp only [not_true_eq_false] at *)
theorem o157 (a1 : 0 ≤ env 1) (b1 : env 1 ≤ 18446744073709551615) (a2 : 0 ≤ env 2) (b2 : env 2 ≤ 18446744073709551615) (h0 : e149.den env = false) (h1 : e150.den env = false) (h2 : e161.den env = false) (h3 : e152.den env = false) (h4 : e153.den env = false) (h5 : e156.den env = false) (h6 : e171.den env = false) : False := by
  have m1 : env 1 % 18446744073709551616 = env 1 := by omega
  have m2 : env 2 % 18446744073709551616 = env 2 := by omega
  have m3 : (env 1).tmod (env 2) % 18446744073709551616 = (env 1).tmod (env 2) := by have := small a1 a2; omega
  simp only [e149, e150, e161, e152, e153, e156, e171, IE.den, den_iff, BE.P, Bool.not_true, Bool.not_false, Int.ofNat_eq_natCast, den_and, den_tmod, s_i64, n32, n64, cut32, cut0, sgn32, sgn0, t32, t64, neg1, negA, negB] at h0 h1 h2 h3 h4 h5 h6
  try simp only [den_add, den_sub, den_mul, den_tdiv, den_tmod, den_and, den_or, den_xor, and_low, and_31, and_63, and_lt, or_lt, xor_lt, shr_lt a1 b1, wrap_u32, wrap_u64, wrap_i32, wrap_i64, tdiv_neg1, tmod_neg1, m1, m2, m3] at h0 h1 h2 h3 h4 h5 h6
  first | omega | (try simp only [not_true_eq_false] at *)
theorem o158 (a1 : 0 ≤ env 1) (b1 : env 1 ≤ 18446744073709551615) (a2 : 0 ≤ env 2) (b2 : env 2 ≤ 18446744073709551615) (h0 : e149.den env = true) (h1 : e150.den env = false) (h2 : e152.den env = true) (h3 : e173.den env = true) : False := by
  have m1 : env 1 % 18446744073709551616 = env 1 := by omega
  have m2 : env 2 % 18446744073709551616 = env 2 := by omega
  have m3 : (env 1).tmod (env 2) % 18446744073709551616 = (env 1).tmod (env 2) := by have := small a1 a2; omega
  simp only [e149, e150, e152, e173, IE.den, den_iff, BE.P, Bool.not_true, Bool.not_false, Int.ofNat_eq_natCast, den_and, den_tmod, s_i64, n32, n64, cut32, cut0, sgn32, sgn0, t32, t64, neg1, negA, negB] at h0 h1 h2 h3
  try simp only [den_add, den_sub, den_mul, den_tdiv, den_tmod, den_and, den_or, den_xor, and_low, and_31, and_63, and_lt, or_lt, xor_lt, shr_lt a1 b1, wrap_u32, wrap_u64, wrap_i32, wrap_i64, tdiv_neg1, tmod_neg1, m1, m2, m3] at h0 h1 h2 h3
  first | omega | (try simp only [not_true_eq_false] at *)
theorem o159 (a1 : 0 ≤ env 1) (b1 : env 1 ≤ 18446744073709551615) (a2 : 0 ≤ env 2) (b2 : env 2 ≤ 18446744073709551615) (h0 : e149.den env = true) (h1 : e150.den env = false) (h2 : e152.den env = true) (h3 : e173.den env = false) : False := by
  have m1 : env 1 % 18446744073709551616 = env 1 := by omega
  have m2 : env 2 % 18446744073709551616 = env 2 := by omega
  have m3 : (env 1).tmod (env 2) % 18446744073709551616 = (env 1).tmod (env 2) := by have := small a1 a2; omega
  simp only [e149, e150, e152, e173, IE.den, den_iff, BE.P, Bool.not_true, Bool.not_false, Int.ofNat_eq_natCast, den_and, den_tmod, s_i64, n32, n64, cut32, cut0, sgn32, sgn0, t32, t64, neg1, negA, negB] at h0 h1 h2 h3
  try simp only [den_add, den_sub, den_mul, den_tdiv, den_tmod, den_and, den_or, den_xor, and_low, and_31, and_63, and_lt, or_lt, xor_lt, shr_lt a1 b1, wrap_u32, wrap_u64, wrap_i32, wrap_i64, tdiv_neg1, tmod_neg1, m1, m2, m3] at h0 h1 h2 h3
  first | omega | (try simp only [not_true_eq_false] at *)
theorem o160 (a1 : 0 ≤ env 1) (b1 : env 1 ≤ 18446744073709551615) (a2 : 0 ≤ env 2) (b2 : env 2 ≤ 18446744073709551615) (h0 : e149.den env = true) (h1 : e150.den env = false) (h2 : e152.den env = false) (h3 : e174.den env = false) : False := by
  have m1 : env 1 % 18446744073709551616 = env 1 := by omega
  have m2 : env 2 % 18446744073709551616 = env 2 := by omega
  have m3 : (env 1).tmod (env 2) % 18446744073709551616 = (env 1).tmod (env 2) := by have := small a1 a2; omega
  simp only [e149, e150, e152, e174, IE.den, den_iff, BE.P, Bool.not_true, Bool.not_false, Int.ofNat_eq_natCast, den_and, den_tmod, s_i64, n32, n64, cut32, cut0, sgn32, sgn0, t32, t64, neg1, negA, negB] at h0 h1 h2 h3
  try simp only [den_add, den_sub, den_mul, den_tdiv, den_tmod, den_and, den_or, den_xor, and_low, and_31, and_63, and_lt, or_lt, xor_lt, shr_lt a1 b1, wrap_u32, wrap_u64, wrap_i32, wrap_i64, tdiv_neg1, tmod_neg1, m1, m2, m3] at h0 h1 h2 h3
  first | omega | (try simp only [not_true_eq_false] at *)
theorem o161 (a1 : 0 ≤ env 1) (b1 : env 1 ≤ 18446744073709551615) (a2 : 0 ≤ env 2) (b2 : env 2 ≤ 18446744073709551615) (h0 : e149.den env = false) (h1 : e150.den env = false) (h2 : e152.den env = true) (h3 : e173.den env = true) : False := by
  have m1 : env 1 % 18446744073709551616 = env 1 := by omega
  have m2 : env 2 % 18446744073709551616 = env 2 := by omega
  have m3 : (env 1).tmod (env 2) % 18446744073709551616 = (env 1).tmod (env 2) := by have := small a1 a2; omega
  simp only [e149, e150, e152, e173, IE.den, den_iff, BE.P, Bool.not_true, Bool.not_false, Int.ofNat_eq_natCast, den_and, den_tmod, s_i64, n32, n64, cut32, cut0, sgn32, sgn0, t32, t64, neg1, negA, negB] at h0 h1 h2 h3
  try simp only [den_add, den_sub, den_mul, den_tdiv, den_tmod, den_and, den_or, den_xor, and_low, and_31, and_63, and_lt, or_lt, xor_lt, shr_lt a1 b1, wrap_u32, wrap_u64, wrap_i32, wrap_i64, tdiv_neg1, tmod_neg1, m1, m2, m3] at h0 h1 h2 h3
  first | omega | (try simp only [not_true_eq_false] at *)
theorem o162 (a1 : 0 ≤ env 1) (b1 : env 1 ≤ 18446744073709551615) (a2 : 0 ≤ env 2) (b2 : env 2 ≤ 18446744073709551615) (h0 : e149.den env = false) (h1 : e150.den env = false) (h2 : e152.den env = true) (h3 : e173.den env = false) : False := by
  have m1 : env 1 % 18446744073709551616 = env 1 := by omega
  have m2 : env 2 % 18446744073709551616 = env 2 := by omega
  have m3 : (env 1).tmod (env 2) % 18446744073709551616 = (env 1).tmod (env 2) := by have := small a1 a2; omega
  simp only [e149, e150, e152, e173, IE.den, den_iff, BE.P, Bool.not_true, Bool.not_false, Int.ofNat_eq_natCast, den_and, den_tmod, s_i64, n32, n64, cut32, cut0, sgn32, sgn0, t32, t64, neg1, negA, negB] at h0 h1 h2 h3
  try simp only [den_add, den_sub, den_mul, den_tdiv, den_tmod, den_and, den_or, den_xor, and_low, and_31, and_63, and_lt, or_lt, xor_lt, shr_lt a1 b1, wrap_u32, wrap_u64, wrap_i32, wrap_i64, tdiv_neg1, tmod_neg1, m1, m2, m3] at h0 h1 h2 h3
  first | omega | (try simp only [not_true_eq_false] at *)
theorem o163 (a1 : 0 ≤ env 1) (b1 : env 1 ≤ 18446744073709551615) (a2 : 0 ≤ env 2) (b2 : env 2 ≤ 18446744073709551615) (h0 : e149.den env = false) (h1 : e150.den env = false) (h2 : e152.den env = false) (h3 : e174.den env = false) : False := by
  have m1 : env 1 % 18446744073709551616 = env 1 := by omega
  have m2 : env 2 % 18446744073709551616 = env 2 := by omega
  have m3 : (env 1).tmod (env 2) % 18446744073709551616 = (env 1).tmod (env 2) := by have := small a1 a2; omega
  simp only [e149, e150, e152, e174, IE.den, den_iff, BE.P, Bool.not_true, Bool.not_false, Int.ofNat_eq_natCast, den_and, den_tmod, s_i64, n32, n64, cut32, cut0, sgn32, sgn0, t32, t64, neg1, negA, negB] at h0 h1 h2 h3
  try simp only [den_add, den_sub, den_mul, den_tdiv, den_tmod, den_and, den_or, den_xor, and_low, and_31, and_63, and_lt, or_lt, xor_lt, shr_lt a1 b1, wrap_u32, wrap_u64, wrap_i32, wrap_i64, tdiv_neg1, tmod_neg1, m1, m2, m3] at h0 h1 h2 h3
  first | omega | (try simp only [not_true_eq_false] at *)
theorem o164 (a1 : 0 ≤ env 1) (b1 : env 1 ≤ 18446744073709551615) (a2 : 0 ≤ env 2) (b2 : env 2 ≤ 18446744073709551615) (h0 : e176.den env = false) : False := by
  have m1 : env 1 % 18446744073709551616 = env 1 := by omega
  have m2 : env 2 % 18446744073709551616 = env 2 := by omega
  have m3 : (env 1).tmod (env 2) % 18446744073709551616 = (env 1).tmod (env 2) := by have := small a1 a2; omega
  simp only [e176, IE.den, den_iff, BE.P, Bool.not_true, Bool.not_false, Int.ofNat_eq_natCast, den_and, den_tmod, s_i64, n32, n64, cut32, cut0, sgn32, sgn0, t32, t64, neg1, negA, negB] at h0
  try simp only [den_add, den_sub, den_mul, den_tdiv, den_tmod, den_and, den_or, den_xor, and_low, and_31, and_63, and_lt, or_lt, xor_lt, shr_lt a1 b1, wrap_u32, wrap_u64, wrap_i32, wrap_i64, tdiv_neg1, tmod_neg1, m1, m2, m3] at h0
  first | omega | (try simp only [not_true_eq_false] at *)
theorem o165 (a1 : 0 ≤ env 1) (b1 : env 1 ≤ 18446744073709551615) (a2 : 0 ≤ env 2) (b2 : env 2 ≤ 18446744073709551615) (h0 : e178.den env = false) : False := by
  have m1 : env 1 % 18446744073709551616 = env 1 := by omega
  have m2 : env 2 % 18446744073709551616 = env 2 := by omega
  have m3 : (env 1).tmod (env 2) % 18446744073709551616 = (env 1).tmod (env 2) := by have := small a1 a2; omega
  simp only [e178, IE.den, den_iff, BE.P, Bool.not_true, Bool.not_false, Int.ofNat_eq_natCast, den_and, den_tmod, s_i64, n32, n64, cut32, cut0, sgn32, sgn0, t32, t64, neg1, negA, negB] at h0
  try simp only [den_add, den_sub, den_mul, den_tdiv, den_tmod, den_and, den_or, den_xor, and_low, and_31, and_63, and_lt, or_lt, xor_lt, shr_lt a1 b1, wrap_u32, wrap_u64, wrap_i32, wrap_i64, tdiv_neg1, tmod_neg1, m1, m2, m3] at h0
  first | omega | (try simp only [not_true_eq_false] at *)
theorem o166 (a1 : 0 ≤ env 1) (b1 : env 1 ≤ 18446744073709551615) (a2 : 0 ≤ env 2) (b2 : env 2 ≤ 18446744073709551615) (h0 : e180.den env = false) : False := by
  have m1 : env 1 % 18446744073709551616 = env 1 := by omega
  have m2 : env 2 % 18446744073709551616 = env 2 := by omega
  have m3 : (env 1).tmod (env 2) % 18446744073709551616 = (env 1).tmod (env 2) := by have := small a1 a2; omega
  simp only [e180, IE.den, den_iff, BE.P, Bool.not_true, Bool.not_false, Int.ofNat_eq_natCast, den_and, den_tmod, s_i64, n32, n64, cut32, cut0, sgn32, sgn0, t32, t64, neg1, negA, negB] at h0
  try simp only [den_add, den_sub, den_mul, den_tdiv, den_tmod, den_and, den_or, den_xor, and_low, and_31, and_63, and_lt, or_lt, xor_lt, shr_lt a1 b1, wrap_u32, wrap_u64, wrap_i32, wrap_i64, tdiv_neg1, tmod_neg1, m1, m2, m3] at h0
  first | omega | (try simp only [not_true_eq_false] at *)
theorem o167 (a1 : 0 ≤ env 1) (b1 : env 1 ≤ 18446744073709551615) (a2 : 0 ≤ env 2) (b2 : env 2 ≤ 18446744073709551615) (h0 : e182.den env = true) (h1 : e183.den env = true) (h2 : e184.den env = false) : False := by
  have m1 : env 1 % 18446744073709551616 = env 1 := by omega
  have m2 : env 2 % 18446744073709551616 = env 2 := by omega
  have m3 : (env 1).tmod (env 2) % 18446744073709551616 = (env 1).tmod (env 2) := by have := small a1 a2; omega
  simp only [e182, e183, e184, IE.den, den_iff, BE.P, Bool.not_true, Bool.not_false, Int.ofNat_eq_natCast, den_and, den_tmod, s_i64, n32, n64, cut32, cut0, sgn32, sgn0, t32, t64, neg1, negA, negB] at h0 h1 h2
  try simp only [den_add, den_sub, den_mul, den_tdiv, den_tmod, den_and, den_or, den_xor, and_low, and_31, and_63, and_lt, or_lt, xor_lt, shr_lt a1 b1, wrap_u32, wrap_u64, wrap_i32, wrap_i64, tdiv_neg1, tmod_neg1, m1, m2, m3] at h0 h1 h2
  first | omega | (try simp only [not_true_eq_false] at *)
theorem o168 (a1 : 0 ≤ env 1) (b1 : env 1 ≤ 18446744073709551615) (a2 : 0 ≤ env 2) (b2 : env 2 ≤ 18446744073709551615) (h0 : e182.den env = true) (h1 : e183.den env = false) : False := by
  have m1 : env 1 % 18446744073709551616 = env 1 := by omega
  have m2 : env 2 % 18446744073709551616 = env 2 := by omega
  have m3 : (env 1).tmod (env 2) % 18446744073709551616 = (env 1).tmod (env 2) := by have := small a1 a2; omega
  simp only [e182, e183, IE.den, den_iff, BE.P, Bool.not_true, Bool.not_false, Int.ofNat_eq_natCast, den_and, den_tmod, s_i64, n32, n64, cut32, cut0, sgn32, sgn0, t32, t64, neg1, negA, negB] at h0 h1
  try simp only [den_add, den_sub, den_mul, den_tdiv, den_tmod, den_and, den_or, den_xor, and_low, and_31, and_63, and_lt, or_lt, xor_lt, shr_lt a1 b1, wrap_u32, wrap_u64, wrap_i32, wrap_i64, tdiv_neg1, tmod_neg1, m1, m2, m3] at h0 h1
  first | omega | (try simp only [not_true_eq_false] at *)
theorem o169 (a1 : 0 ≤ env 1) (b1 : env 1 ≤ 18446744073709551615) (a2 : 0 ≤ env 2) (b2 : env 2 ≤ 18446744073709551615) (h0 : e182.den env = false) : False := by
  have m1 : env 1 % 18446744073709551616 = env 1 := by omega
  have m2 : env 2 % 18446744073709551616 = env 2 := by omega
  have m3 : (env 1).tmod (env 2) % 18446744073709551616 = (env 1).tmod (env 2) := by have := small a1 a2; omega
  simp only [e182, IE.den, den_iff, BE.P, Bool.not_true, Bool.not_false, Int.ofNat_eq_natCast, den_and, den_tmod, s_i64, n32, n64, cut32, cut0, sgn32, sgn0, t32, t64, neg1, negA, negB] at h0
  try simp only [den_add, den_sub, den_mul, den_tdiv, den_tmod, den_and, den_or, den_xor, and_low, and_31, and_63, and_lt, or_lt, xor_lt, shr_lt a1 b1, wrap_u32, wrap_u64, wrap_i32, wrap_i64, tdiv_neg1, tmod_neg1, m1, m2, m3] at h0
  first | omega | (try simp only [not_true_eq_false] at *)
theorem o170 (a1 : 0 ≤ env 1) (b1 : env 1 ≤ 18446744073709551615) (a2 : 0 ≤ env 2) (b2 : env 2 ≤ 18446744073709551615) (h0 : e182.den env = true) (h1 : e183.den env = true) (h2 : e186.den env = false) : False := by
  have m1 : env 1 % 18446744073709551616 = env 1 := by omega
  have m2 : env 2 % 18446744073709551616 = env 2 := by omega
  have m3 : (env 1).tmod (env 2) % 18446744073709551616 = (env 1).tmod (env 2) := by have := small a1 a2; omega
  simp only [e182, e183, e186, IE.den, den_iff, BE.P, Bool.not_true, Bool.not_false, Int.ofNat_eq_natCast, den_and, den_tmod, s_i64, n32, n64, cut32, cut0, sgn32, sgn0, t32, t64, neg1, negA, negB] at h0 h1 h2
  try simp only [den_add, den_sub, den_mul, den_tdiv, den_tmod, den_and, den_or, den_xor, and_low, and_31, and_63, and_lt, or_lt, xor_lt, shr_lt a1 b1, wrap_u32, wrap_u64, wrap_i32, wrap_i64, tdiv_neg1, tmod_neg1, m1, m2, m3] at h0 h1 h2
  first | omega | (try simp only [not_true_eq_false] at *)
theorem o171 (a1 : 0 ≤ env 1) (b1 : env 1 ≤ 18446744073709551615) (a2 : 0 ≤ env 2) (b2 : env 2 ≤ 18446744073709551615) (h0 : e182.den env = true) (h1 : e183.den env = true) (h2 : e188.den env = false) : False := by
  have m1 : env 1 % 18446744073709551616 = env 1 := by omega
  have m2 : env 2 % 18446744073709551616 = env 2 := by omega
  have m3 : (env 1).tmod (env 2) % 18446744073709551616 = (env 1).tmod (env 2) := by have := small a1 a2; omega
  simp only [e182, e183, e188, IE.den, den_iff, BE.P, Bool.not_true, Bool.not_false, Int.ofNat_eq_natCast, den_and, den_tmod, s_i64, n32, n64, cut32, cut0, sgn32, sgn0, t32, t64, neg1, negA, negB] at h0 h1 h2
  try simp only [den_add, den_sub, den_mul, den_tdiv, den_tmod, den_and, den_or, den_xor, and_low, and_31, and_63, and_lt, or_lt, xor_lt, shr_lt a1 b1, wrap_u32, wrap_u64, wrap_i32, wrap_i64, tdiv_neg1, tmod_neg1, m1, m2, m3] at h0 h1 h2
  first | omega | (try simp only [not_true_eq_false] at *)
theorem o172 (a1 : 0 ≤ env 1) (b1 : env 1 ≤ 18446744073709551615) (a2 : 0 ≤ env 2) (b2 : env 2 ≤ 18446744073709551615) (h0 : e190.den env = true) (h1 : e191.den env = true) (h2 : e183.den env = true) (h3 : e192.den env = false) : False := by
  have m1 : env 1 % 18446744073709551616 = env 1 := by omega
  have m2 : env 2 % 18446744073709551616 = env 2 := by omega
  have m3 : (env 1).tmod (env 2) % 18446744073709551616 = (env 1).tmod (env 2) := by have := small a1 a2; omega
  simp only [e190, e191, e183, e192, IE.den, den_iff, BE.P, Bool.not_true, Bool.not_false, Int.ofNat_eq_natCast, den_and, den_tmod, s_i64, n32, n64, cut32, cut0, sgn32, sgn0, t32, t64, neg1, negA, negB] at h0 h1 h2 h3
  try simp only [den_add, den_sub, den_mul, den_tdiv, den_tmod, den_and, den_or, den_xor, and_low, and_31, and_63, and_lt, or_lt, xor_lt, shr_lt a1 b1, wrap_u32, wrap_u64, wrap_i32, wrap_i64, tdiv_neg1, tmod_neg1, m1, m2, m3] at h0 h1 h2 h3
  first | omega | (try simp only [not_true_eq_false] at *)
theorem o173 (a1 : 0 ≤ env 1) (b1 : env 1 ≤ 18446744073709551615) (a2 : 0 ≤ env 2) (b2 : env 2 ≤ 18446744073709551615) (h0 : e190.den env = true) (h1 : e191.den env = true) (h2 : e183.den env = false) : False := by
  have m1 : env 1 % 18446744073709551616 = env 1 := by omega
  have m2 : env 2 % 18446744073709551616 = env 2 := by omega
  have m3 : (env 1).tmod (env 2) % 18446744073709551616 = (env 1).tmod (env 2) := by have := small a1 a2; omega
  simp only [e190, e191, e183, IE.den, den_iff, BE.P, Bool.not_true, Bool.not_false, Int.ofNat_eq_natCast, den_and, den_tmod, s_i64, n32, n64, cut32, cut0, sgn32, sgn0, t32, t64, neg1, negA, negB] at h0 h1 h2
  try simp only [den_add, den_sub, den_mul, den_tdiv, den_tmod, den_and, den_or, den_xor, and_low, and_31, and_63, and_lt, or_lt, xor_lt, shr_lt a1 b1, wrap_u32, wrap_u64, wrap_i32, wrap_i64, tdiv_neg1, tmod_neg1, m1, m2, m3] at h0 h1 h2
  first | omega | (try simp only [not_true_eq_false] at *)
theorem o174 (a1 : 0 ≤ env 1) (b1 : env 1 ≤ 18446744073709551615) (a2 : 0 ≤ env 2) (b2 : env 2 ≤ 18446744073709551615) (h0 : e190.den env = true) (h1 : e191.den env = false) : False := by
  have m1 : env 1 % 18446744073709551616 = env 1 := by omega
  have m2 : env 2 % 18446744073709551616 = env 2 := by omega
  have m3 : (env 1).tmod (env 2) % 18446744073709551616 = (env 1).tmod (env 2) := by have := small a1 a2; omega
  simp only [e190, e191, IE.den, den_iff, BE.P, Bool.not_true, Bool.not_false, Int.ofNat_eq_natCast, den_and, den_tmod, s_i64, n32, n64, cut32, cut0, sgn32, sgn0, t32, t64, neg1, negA, negB] at h0 h1
  try simp only [den_add, den_sub, den_mul, den_tdiv, den_tmod, den_and, den_or, den_xor, and_low, and_31, and_63, and_lt, or_lt, xor_lt, shr_lt a1 b1, wrap_u32, wrap_u64, wrap_i32, wrap_i64, tdiv_neg1, tmod_neg1, m1, m2, m3] at h0 h1
  first | omega | (try simp only [not_true_eq_false] at *)
theorem o175 (a1 : 0 ≤ env 1) (b1 : env 1 ≤ 18446744073709551615) (a2 : 0 ≤ env 2) (b2 : env 2 ≤ 18446744073709551615) (h0 : e190.den env = false) : False := by
  have m1 : env 1 % 18446744073709551616 = env 1 := by omega
  have m2 : env 2 % 18446744073709551616 = env 2 := by omega
  have m3 : (env 1).tmod (env 2) % 18446744073709551616 = (env 1).tmod (env 2) := by have := small a1 a2; omega
  simp only [e190, IE.den, den_iff, BE.P, Bool.not_true, Bool.not_false, Int.ofNat_eq_natCast, den_and, den_tmod, s_i64, n32, n64, cut32, cut0, sgn32, sgn0, t32, t64, neg1, negA, negB] at h0
  try simp only [den_add, den_sub, den_mul, den_tdiv, den_tmod, den_and, den_or, den_xor, and_low, and_31, and_63, and_lt, or_lt, xor_lt, shr_lt a1 b1, wrap_u32, wrap_u64, wrap_i32, wrap_i64, tdiv_neg1, tmod_neg1, m1, m2, m3] at h0
  first | omega | (try simp only [not_true_eq_false] at *)
theorem o176 (a1 : 0 ≤ env 1) (b1 : env 1 ≤ 18446744073709551615) (a2 : 0 ≤ env 2) (b2 : env 2 ≤ 18446744073709551615) (h0 : e195.den env = true) (h1 : e196.den env = true) (h2 : e183.den env = true) (h3 : e192.den env = false) : False := by
  have m1 : env 1 % 18446744073709551616 = env 1 := by omega
  have m2 : env 2 % 18446744073709551616 = env 2 := by omega
  have m3 : (env 1).tmod (env 2) % 18446744073709551616 = (env 1).tmod (env 2) := by have := small a1 a2; omega
  simp only [e195, e196, e183, e192, IE.den, den_iff, BE.P, Bool.not_true, Bool.not_false, Int.ofNat_eq_natCast, den_and, den_tmod, s_i64, n32, n64, cut32, cut0, sgn32, sgn0, t32, t64, neg1, negA, negB] at h0 h1 h2 h3
  try simp only [den_add, den_sub, den_mul, den_tdiv, den_tmod, den_and, den_or, den_xor, and_low, and_31, and_63, and_lt, or_lt, xor_lt, shr_lt a1 b1, wrap_u32, wrap_u64, wrap_i32, wrap_i64, tdiv_neg1, tmod_neg1, m1, m2, m3] at h0 h1 h2 h3
  first | omega | (try simp only [not_true_eq_false] at *)
theorem o177 (a1 : 0 ≤ env 1) (b1 : env 1 ≤ 18446744073709551615) (a2 : 0 ≤ env 2) (b2 : env 2 ≤ 18446744073709551615) (h0 : e195.den env = true) (h1 : e196.den env = true) (h2 : e183.den env = false) : False := by
  have m1 : env 1 % 18446744073709551616 = env 1 := by omega
  have m2 : env 2 % 18446744073709551616 = env 2 := by omega
  have m3 : (env 1).tmod (env 2) % 18446744073709551616 = (env 1).tmod (env 2) := by have := small a1 a2; omega
  simp only [e195, e196, e183, IE.den, den_iff, BE.P, Bool.not_true, Bool.not_false, Int.ofNat_eq_natCast, den_and, den_tmod, s_i64, n32, n64, cut32, cut0, sgn32, sgn0, t32, t64, neg1, negA, negB] at h0 h1 h2
  try simp only [den_add, den_sub, den_mul, den_tdiv, den_tmod, den_and, den_or, den_xor, and_low, and_31, and_63, and_lt, or_lt, xor_lt, shr_lt a1 b1, wrap_u32, wrap_u64, wrap_i32, wrap_i64, tdiv_neg1, tmod_neg1, m1, m2, m3] at h0 h1 h2
  first | omega | (try simp only [not_true_eq_false] at *)
theorem o178 (a1 : 0 ≤ env 1) (b1 : env 1 ≤ 18446744073709551615) (a2 : 0 ≤ env 2) (b2 : env 2 ≤ 18446744073709551615) (h0 : e195.den env = true) (h1 : e196.den env = false) : False := by
  have m1 : env 1 % 18446744073709551616 = env 1 := by omega
  have m2 : env 2 % 18446744073709551616 = env 2 := by omega
  have m3 : (env 1).tmod (env 2) % 18446744073709551616 = (env 1).tmod (env 2) := by have := small a1 a2; omega
  simp only [e195, e196, IE.den, den_iff, BE.P, Bool.not_true, Bool.not_false, Int.ofNat_eq_natCast, den_and, den_tmod, s_i64, n32, n64, cut32, cut0, sgn32, sgn0, t32, t64, neg1, negA, negB] at h0 h1
  try simp only [den_add, den_sub, den_mul, den_tdiv, den_tmod, den_and, den_or, den_xor, and_low, and_31, and_63, and_lt, or_lt, xor_lt, shr_lt a1 b1, wrap_u32, wrap_u64, wrap_i32, wrap_i64, tdiv_neg1, tmod_neg1, m1, m2, m3] at h0 h1
  first | omega | (try simp only [not_true_eq_false] at *)
theorem o179 (a1 : 0 ≤ env 1) (b1 : env 1 ≤ 18446744073709551615) (a2 : 0 ≤ env 2) (b2 : env 2 ≤ 18446744073709551615) (h0 : e195.den env = false) : False := by
  have m1 : env 1 % 18446744073709551616 = env 1 := by omega
  have m2 : env 2 % 18446744073709551616 = env 2 := by omega
  have m3 : (env 1).tmod (env 2) % 18446744073709551616 = (env 1).tmod (env 2) := by have := small a1 a2; omega
  simp only [e195, IE.den, den_iff, BE.P, Bool.not_true, Bool.not_false, Int.ofNat_eq_natCast, den_and, den_tmod, s_i64, n32, n64, cut32, cut0, sgn32, sgn0, t32, t64, neg1, negA, negB] at h0
  try simp only [den_add, den_sub, den_mul, den_tdiv, den_tmod, den_and, den_or, den_xor, and_low, and_31, and_63, and_lt, or_lt, xor_lt, shr_lt a1 b1, wrap_u32, wrap_u64, wrap_i32, wrap_i64, tdiv_neg1, tmod_neg1, m1, m2, m3] at h0
  first | omega | (try simp only [not_true_eq_false] at *)
theorem no_eq {a b : IE} (h : a.den env = b.den env) : (BE.eq a b).den env = false → False := by
  intro e
  have e : ieqb (a.den env) (b.den env) = false := e
  rw [h, ieqb_eq] at e
  simp at e
theorem rotN_right (w X m : Nat) (hm : m < w) (hX : X < 2 ^ w) : Nat.lor (X / 2 ^ m) (X * 2 ^ (w - m) % 2 ^ w) = rotN w X ((w - m) % w) := by
  unfold rotN
  by_cases h0 : m = 0
  · subst h0
    rw [show (w - 0) % w = 0 by simp, show w - 0 = w by omega, Nat.mul_mod_left, Nat.pow_zero, Nat.div_one, Nat.mul_one, Nat.mod_eq_of_lt hX, Nat.div_eq_of_lt hX]
  · rw [Nat.mod_eq_of_lt (show w - m < w by omega), show w - (w - m) = m by omega]
    exact Nat.or_comm _ _
theorem lor_mod (a b n : Nat) : Nat.lor a b % 2 ^ n = Nat.lor (a % 2 ^ n) (b % 2 ^ n) := Nat.or_mod_two_pow
theorem rotl_den {x s : IE} {X m w : Nat} (hw : w ≤ 64) (hx : x.den env = X) (hX : X < 2 ^ w) (hs : s.den env = m) (hm : m < w) :
    (IE.bin .or .u64 (.wrap .u64 (.bin .shl .u64 x s)) (.bin .shr .u64 x (.wrap .u64 (.bin .sub .u64 (.c (.ofNat w)) s)))).den env % ((2 ^ w : Nat) : Int) = ((rotN w X m : Nat) : Int) := by
  have hX2 : X < 18446744073709551616 := Nat.lt_of_lt_of_le hX (Nat.pow_le_pow_right (by decide) hw)
  have h1 : (IE.wrap .u64 (.bin .shl .u64 x s)).den env = ((X * 2 ^ m % 18446744073709551616 : Nat) : Int) := by
    show wrapF .u64 ((IE.bin .shl .u64 x s).den env) = _
    rw [wrap_u64, shl_at hs (by show m ≤ 64; omega), hx, Int.natCast_emod, Int.natCast_mul]; rfl
  have h2 : (IE.wrap .u64 (.bin .sub .u64 (.c (.ofNat w)) s)).den env = ((w - m : Nat) : Int) := by
    show wrapF .u64 (isub (w : Int) (s.den env)) = _
    rw [wrap_u64, isub_eq, hs]; omega
  have h3 : (IE.bin .shr .u64 x (.wrap .u64 (.bin .sub .u64 (.c (.ofNat w)) s))).den env = ((X / 2 ^ (w - m) : Nat) : Int) := by
    rw [shr_at h2 (by show w - m ≤ 64; omega), hx]; norm_cast
  show orF .u64 ((IE.wrap .u64 (.bin .shl .u64 x s)).den env) ((IE.bin .shr .u64 x (.wrap .u64 (.bin .sub .u64 (.c (.ofNat w)) s))).den env) % _ = _
  have h4 := Nat.div_le_self X (2 ^ (w - m))
  rw [h1, h3, orF_u64 _ _ (Nat.mod_lt _ (by decide)) (by omega), ← Int.natCast_emod, lor_mod, Nat.mod_mod_of_dvd _ (show 2 ^ w ∣ 2 ^ 64 from Nat.pow_dvd_pow 2 hw), Nat.mod_eq_of_lt (show X / 2 ^ (w - m) < 2 ^ w by omega)]
  rfl
theorem rotr_den {x s : IE} {X m w : Nat} (hw : w ≤ 64) (hx : x.den env = X) (hX : X < 2 ^ w) (hs : s.den env = m) (hm : m < w) :
    (IE.bin .or .u64 (.bin .shr .u64 x s) (.wrap .u64 (.bin .shl .u64 x (.wrap .u64 (.bin .sub .u64 (.c (.ofNat w)) s))))).den env % ((2 ^ w : Nat) : Int) = ((rotN w X ((w - m) % w) : Nat) : Int) := by
  have hX2 : X < 18446744073709551616 := Nat.lt_of_lt_of_le hX (Nat.pow_le_pow_right (by decide) hw)
  have h2 : (IE.wrap .u64 (.bin .sub .u64 (.c (.ofNat w)) s)).den env = ((w - m : Nat) : Int) := by
    show wrapF .u64 (isub (w : Int) (s.den env)) = _
    rw [wrap_u64, isub_eq, hs]; omega
  have h1 : (IE.wrap .u64 (.bin .shl .u64 x (.wrap .u64 (.bin .sub .u64 (.c (.ofNat w)) s)))).den env = ((X * 2 ^ (w - m) % 18446744073709551616 : Nat) : Int) := by
    show wrapF .u64 ((IE.bin .shl .u64 x (.wrap .u64 (.bin .sub .u64 (.c (.ofNat w)) s))).den env) = _
    rw [wrap_u64, shl_at h2 (by show w - m ≤ 64; omega), hx, Int.natCast_emod, Int.natCast_mul]; rfl
  have h3 : (IE.bin .shr .u64 x s).den env = ((X / 2 ^ m : Nat) : Int) := by
    rw [shr_at hs (by show m ≤ 64; omega), hx]; norm_cast
  show orF .u64 ((IE.bin .shr .u64 x s).den env) ((IE.wrap .u64 (.bin .shl .u64 x (.wrap .u64 (.bin .sub .u64 (.c (.ofNat w)) s)))).den env) % _ = _
  have h4 := Nat.div_le_self X (2 ^ m)
  rw [h1, h3, orF_u64 _ _ (by omega) (Nat.mod_lt _ (by decide)), ← Int.natCast_emod, lor_mod, Nat.mod_mod_of_dvd _ (show 2 ^ w ∣ 2 ^ 64 from Nat.pow_dvd_pow 2 hw), Nat.mod_eq_of_lt (show X / 2 ^ m < 2 ^ w by omega), rotN_right w X m hm hX]
abbrev low : IE := .c (.ofNat 4294967295)
abbrev c32 (k : Nat) : IE := .bin .shr .u64 (.wrap .u64 (.bin .shl .u64 (.v k) (.c (.ofNat 32)))) (.c (.ofNat 32))
abbrev c0 (k : Nat) : IE := .bin .shr .u64 (.wrap .u64 (.bin .shl .u64 (.v k) (.c (.ofNat 0)))) (.c (.ofNat 0))
abbrev n32i : IE := .bin .and .i64 (.wrap .i64 (.bin .and .u64 (.v 2) low)) (.c (.ofNat 31))
abbrev n64i : IE := .bin .and .i64 (.wrap .i64 (.v 2)) (.c (.ofNat 63))
theorem c32_den (k : Nat) : (c32 k).den env = (((env k % 4294967296).toNat : Nat) : Int) := by
  have : (c32 k).den env = env k % 4294967296 := cut32 _
  rw [this]; omega
theorem c0_den (k : Nat) : (c0 k).den env = (((env k % 18446744073709551616).toNat : Nat) : Int) := by
  have : (c0 k).den env = env k % 18446744073709551616 := cut0 _
  rw [this]; omega
theorem n32i_den {m : Nat} (h1 : env 2 % 32 = m) : n32i.den env = m := by
  have : n32i.den env = env 2 % 32 := n32 _
  rw [this, h1]
theorem n64i_den {m : Nat} (h1 : env 2 % 64 = m) : n64i.den env = m := by
  have : n64i.den env = env 2 % 64 := n64 _
  rw [this, h1]
theorem p32_den {m : Nat} (h1 : env 2 % 32 = m) : (IE.bin .and .u64 (.wrap .u64 n32i) (.c (.ofNat 31))).den env = m := by
  have := n32i_den h1
  show andF .u64 (wrapF .u64 (n32i.den env)) ((31 : Nat) : Int) = m
  rw [and_31, wrap_u64, this]; omega
theorem q32_den {m : Nat} (h1 : env 2 % 32 = m) : (IE.bin .and .u64 (.wrap .u64 (.wrap .i64 (.bin .sub .i64 (.c (.ofNat 0)) n32i))) (.c (.ofNat 31))).den env = ((32 - m) % 32 : Nat) := by
  have := n32i_den h1
  show andF .u64 (wrapF .u64 (wrapF .i64 (isub 0 (n32i.den env)))) ((31 : Nat) : Int) = _
  rw [and_31, wrap_u64, wrap_i64, isub_eq, this]; omega
theorem p64_den {m : Nat} (h1 : env 2 % 64 = m) : (IE.bin .and .u64 (.wrap .u64 n64i) (.c (.ofNat 63))).den env = m := by
  have := n64i_den h1
  show andF .u64 (wrapF .u64 (n64i.den env)) ((63 : Nat) : Int) = m
  rw [and_63, wrap_u64, this]; omega
theorem q64_den {m : Nat} (h1 : env 2 % 64 = m) : (IE.bin .and .u64 (.wrap .u64 (.wrap .i64 (.bin .sub .i64 (.c (.ofNat 0)) n64i))) (.c (.ofNat 63))).den env = ((64 - m) % 64 : Nat) := by
  have := n64i_den h1
  show andF .u64 (wrapF .u64 (wrapF .i64 (isub 0 (n64i.den env)))) ((63 : Nat) : Int) = _
  rw [and_63, wrap_u64, wrap_i64, isub_eq, this]; omega
theorem r32_den {m : Nat} (h1 : env 2 % 32 = m) : (IE.bin .tmod .u64 (c32 2) (.c (.ofNat 32))).den env = m := by
  show ((c32 2).den env).tmod ((32 : Nat) : Int) = m
  have : (c32 2).den env = env 2 % 4294967296 := cut32 _
  rw [this, t32, h1]
theorem r64_den {m : Nat} (h1 : env 2 % 64 = m) : (IE.bin .tmod .u64 (c0 2) (.c (.ofNat 64))).den env = m := by
  show ((c0 2).den env).tmod ((64 : Nat) : Int) = m
  have : (c0 2).den env = env 2 % 18446744073709551616 := cut0 _
  rw [this, t64, h1]
theorem x32_den : (IE.wrap .u32 (.bin .and .u64 (.v 1) low)).den env = (((env 1 % 4294967296).toNat : Nat) : Int) := by
  show wrapF .u32 (andF .u64 (env 1) ((4294967295 : Nat) : Int)) = _
  rw [wrap_u32, and_low]; omega
theorem low_den {a : IE} {X : Nat} (h : a.den env = X) (hX : X < 4294967296) : (IE.bin .and .u64 (.wrap .u64 a) low).den env = X := by
  show andF .u64 (wrapF .u64 (a.den env)) ((4294967295 : Nat) : Int) = _
  rw [and_low, wrap_u64, h]; omega
theorem m32 : ∃ m : Nat, env 2 % 32 = m ∧ m < 32 := ⟨(env 2 % 32).toNat, by omega, by omega⟩
theorem m64 : ∃ m : Nat, env 2 % 64 = m ∧ m < 64 := ⟨(env 2 % 64).toNat, by omega, by omega⟩
theorem no134 (a1 : 0 ≤ env 1) (b1 : env 1 ≤ 18446744073709551615) : e134.den env = false → False := by
  obtain ⟨m, hm, hl⟩ := m32 (env := env)
  have hX : (env 1 % 4294967296).toNat < 2 ^ 32 := by omega
  refine no_eq ((low_den (rot32_den x32_den hX (p32_den hm) hl) (rotN_lt 32 _ m (by omega) hX)).trans ?_)
  exact ((cut32 _).trans (rotl_den (w := 32) (by omega) (c32_den 1) hX (r32_den hm) hl)).symm
theorem no138 (a1 : 0 ≤ env 1) (b1 : env 1 ≤ 18446744073709551615) : e138.den env = false → False := by
  obtain ⟨m, hm, hl⟩ := m32 (env := env)
  have hX : (env 1 % 4294967296).toNat < 2 ^ 32 := by omega
  refine no_eq ((low_den (rot32_den x32_den hX (q32_den hm) (Nat.mod_lt _ (by decide))) (rotN_lt 32 _ _ (by omega) hX)).trans ?_)
  exact ((cut32 _).trans (rotr_den (w := 32) (by omega) (c32_den 1) hX (r32_den hm) hl)).symm
theorem v1_den (a1 : 0 ≤ env 1) (b1 : env 1 ≤ 18446744073709551615) : (IE.v 1).den env = (((env 1 % 18446744073709551616).toNat : Nat) : Int) := by
  show env 1 = _
  omega
theorem no193 (a1 : 0 ≤ env 1) (b1 : env 1 ≤ 18446744073709551615) : e193.den env = false → False := by
  obtain ⟨m, hm, hl⟩ := m64 (env := env)
  have hX : (env 1 % 18446744073709551616).toNat < 2 ^ 64 := by omega
  refine no_eq ((rot64_den (v1_den a1 b1) hX (p64_den hm) hl).trans ?_)
  exact ((cut0 _).trans (rotl_den (w := 64) (by omega) (c0_den 1) hX (r64_den hm) hl)).symm
theorem no197 (a1 : 0 ≤ env 1) (b1 : env 1 ≤ 18446744073709551615) : e197.den env = false → False := by
  obtain ⟨m, hm, hl⟩ := m64 (env := env)
  have hX : (env 1 % 18446744073709551616).toNat < 2 ^ 64 := by omega
  refine no_eq ((rot64_den (v1_den a1 b1) hX (q64_den hm) (Nat.mod_lt _ (by decide))).trans ?_)
  exact ((cut0 _).trans (rotr_den (w := 64) (by omega) (c0_den 1) hX (r64_den hm) hl)).symm
end
set_option maxRecDepth 100000 in
theorem holds {env : Nat → Int} (a0 : (-9223372036854775808) ≤ env 0) (b0 : env 0 ≤ 9223372036854775807) (a1 : 0 ≤ env 1) (b1 : env 1 ≤ 18446744073709551615) (a2 : 0 ≤ env 2) (b2 : env 2 ≤ 18446744073709551615) : dt.holds env := by
  exact holds_fork
   (fun h0 => holds_fork
    (fun h1 => holds_true)
    (fun h1 => holds_fork
     (fun h2 => holds_out (by simp only [e0, e1, e2, IE.den, den_iff, BE.P, Bool.not_true, Bool.not_false, Int.ofNat_eq_natCast] at h0 h1 h2; omega))
     (fun h2 => holds_fork
      (fun h3 => holds_out (by simp only [e0, e1, e2, e3, IE.den, den_iff, BE.P, Bool.not_true, Bool.not_false, Int.ofNat_eq_natCast] at h0 h1 h2 h3; omega))
      (fun h3 => holds_fork
       (fun h4 => holds_out (by simp only [e0, e1, e2, e3, e4, IE.den, den_iff, BE.P, Bool.not_true, Bool.not_false, Int.ofNat_eq_natCast] at h0 h1 h2 h3 h4; omega))
       (fun h4 => holds_fork
        (fun h5 => holds_out (by simp only [e0, e1, e2, e3, e4, e5, IE.den, den_iff, BE.P, Bool.not_true, Bool.not_false, Int.ofNat_eq_natCast] at h0 h1 h2 h3 h4 h5; omega))
        (fun h5 => holds_fork
         (fun h6 => holds_out (by simp only [e0, e1, e2, e3, e4, e5, e6, IE.den, den_iff, BE.P, Bool.not_true, Bool.not_false, Int.ofNat_eq_natCast] at h0 h1 h2 h3 h4 h5 h6; omega))
         (fun h6 => holds_fork
          (fun h7 => holds_out (by simp only [e0, e1, e2, e3, e4, e5, e6, e7, IE.den, den_iff, BE.P, Bool.not_true, Bool.not_false, Int.ofNat_eq_natCast] at h0 h1 h2 h3 h4 h5 h6 h7; omega))
          (fun h7 => holds_fork
           (fun h8 => holds_out (by simp only [e0, e1, e2, e3, e4, e5, e6, e7, e8, IE.den, den_iff, BE.P, Bool.not_true, Bool.not_false, Int.ofNat_eq_natCast] at h0 h1 h2 h3 h4 h5 h6 h7 h8; omega))
           (fun h8 => holds_fork
            (fun h9 => holds_out (by simp only [e0, e1, e2, e3, e4, e5, e6, e7, e8, e9, IE.den, den_iff, BE.P, Bool.not_true, Bool.not_false, Int.ofNat_eq_natCast] at h0 h1 h2 h3 h4 h5 h6 h7 h8 h9; omega))
            (fun h9 => holds_fork
             (fun h10 => holds_out (by simp only [e0, e1, e2, e3, e4, e5, e6, e7, e8, e9, e10, IE.den, den_iff, BE.P, Bool.not_true, Bool.not_false, Int.ofNat_eq_natCast] at h0 h1 h2 h3 h4 h5 h6 h7 h8 h9 h10; omega))
             (fun h10 => holds_fork
              (fun h11 => holds_out (by simp only [e0, e1, e2, e3, e4, e5, e6, e7, e8, e9, e10, e11, IE.den, den_iff, BE.P, Bool.not_true, Bool.not_false, Int.ofNat_eq_natCast] at h0 h1 h2 h3 h4 h5 h6 h7 h8 h9 h10 h11; omega))
              (fun h11 => holds_fork
               (fun h12 => holds_out (by simp only [e0, e1, e2, e3, e4, e5, e6, e7, e8, e9, e10, e11, e12, IE.den, den_iff, BE.P, Bool.not_true, Bool.not_false, Int.ofNat_eq_natCast] at h0 h1 h2 h3 h4 h5 h6 h7 h8 h9 h10 h11 h12; omega))
               (fun h12 => holds_true)))))))))))))
   (fun h0 => holds_fork
    (fun h1 => holds_fork
     (fun h2 => holds_fork
      (fun h3 => holds_fork
       (fun h4 => holds_true)
       (fun h4 => holds_out (o0 a1 b1 a2 b2 h3 h4)))
      (fun h3 => holds_fork
       (fun h4 => holds_out (o1 a1 b1 a2 b2 h3 h4))
       (fun h4 => holds_true)))
     (fun h2 => holds_fork
      (fun h3 => holds_fork
       (fun h4 => holds_fork
        (fun h5 => holds_true)
        (fun h5 => holds_out (o2 a1 b1 a2 b2 h4 h5)))
       (fun h4 => holds_fork
        (fun h5 => holds_out (o3 a1 b1 a2 b2 h4 h5))
        (fun h5 => holds_true)))
      (fun h3 => holds_fork
       (fun h4 => holds_fork
        (fun h5 => holds_fork
         (fun h6 => holds_true)
         (fun h6 => holds_out (o4 a1 b1 a2 b2 h5 h6)))
        (fun h5 => holds_fork
         (fun h6 => holds_out (o5 a1 b1 a2 b2 h5 h6))
         (fun h6 => holds_true)))
       (fun h4 => holds_fork
        (fun h5 => holds_fork
         (fun h6 => holds_fork
          (fun h7 => holds_true)
          (fun h7 => holds_out (o6 a1 b1 a2 b2 h6 h7)))
         (fun h6 => holds_fork
          (fun h7 => holds_out (o7 a1 b1 a2 b2 h6 h7))
          (fun h7 => holds_true)))
        (fun h5 => holds_fork
         (fun h6 => holds_fork
          (fun h7 => holds_fork
           (fun h8 => holds_true)
           (fun h8 => holds_out (o8 a1 b1 a2 b2 h7 h8)))
          (fun h7 => holds_fork
           (fun h8 => holds_out (o9 a1 b1 a2 b2 h7 h8))
           (fun h8 => holds_true)))
         (fun h6 => holds_fork
          (fun h7 => holds_fork
           (fun h8 => holds_fork
            (fun h9 => holds_true)
            (fun h9 => holds_out (o10 a1 b1 a2 b2 h8 h9)))
           (fun h8 => holds_fork
            (fun h9 => holds_out (o11 a1 b1 a2 b2 h8 h9))
            (fun h9 => holds_true)))
          (fun h7 => holds_fork
           (fun h8 => holds_fork
            (fun h9 => holds_fork
             (fun h10 => holds_true)
             (fun h10 => holds_out (o12 a1 b1 a2 b2 h9 h10)))
            (fun h9 => holds_fork
             (fun h10 => holds_out (o13 a1 b1 a2 b2 h9 h10))
             (fun h10 => holds_true)))
           (fun h8 => holds_fork
            (fun h9 => holds_fork
             (fun h10 => holds_fork
              (fun h11 => holds_true)
              (fun h11 => holds_out (o14 a1 b1 a2 b2 h10 h11)))
             (fun h10 => holds_fork
              (fun h11 => holds_out (o15 a1 b1 a2 b2 h10 h11))
              (fun h11 => holds_true)))
            (fun h9 => holds_fork
             (fun h10 => holds_fork
              (fun h11 => holds_fork
               (fun h12 => holds_true)
               (fun h12 => holds_out (o16 a1 b1 a2 b2 h11 h12)))
              (fun h11 => holds_fork
               (fun h12 => holds_out (o17 a1 b1 a2 b2 h11 h12))
               (fun h12 => holds_true)))
             (fun h10 => holds_fork
              (fun h11 => holds_fork
               (fun h12 => holds_fork
                (fun h13 => holds_true)
                (fun h13 => holds_out (o18 a1 b1 a2 b2 h12 h13)))
               (fun h12 => holds_fork
                (fun h13 => holds_out (o19 a1 b1 a2 b2 h12 h13))
                (fun h13 => holds_true)))
              (fun h11 => holds_out (by simp only [e0, e13, e14, e17, e20, e23, e26, e29, e32, e35, e38, e41, IE.den, den_iff, BE.P, Bool.not_true, Bool.not_false, Int.ofNat_eq_natCast] at h0 h1 h2 h3 h4 h5 h6 h7 h8 h9 h10 h11; omega))))))))))))
    (fun h1 => holds_fork
     (fun h2 => holds_fork
      (fun h3 => holds_out (by simp only [e0, e13, e44, e1, IE.den, den_iff, BE.P, Bool.not_true, Bool.not_false, Int.ofNat_eq_natCast] at h0 h1 h2 h3; omega))
      (fun h3 => holds_fork
       (fun h4 => holds_true)
       (fun h4 => holds_out (by simp only [e0, e13, e44, e1, e2, IE.den, den_iff, BE.P, Bool.not_true, Bool.not_false, Int.ofNat_eq_natCast] at h0 h1 h2 h3 h4; omega))))
     (fun h2 => holds_fork
      (fun h3 => holds_fork
       (fun h4 => holds_fork
        (fun h5 => holds_fork
         (fun h6 => holds_true)
         (fun h6 => holds_out (o20 a1 b1 a2 b2 h5 h6)))
        (fun h5 => holds_fork
         (fun h6 => holds_out (o21 a1 b1 a2 b2 h5 h6))
         (fun h6 => holds_true)))
       (fun h4 => holds_fork
        (fun h5 => holds_fork
         (fun h6 => holds_fork
          (fun h7 => holds_true)
          (fun h7 => holds_out (o22 a1 b1 a2 b2 h6 h7)))
         (fun h6 => holds_fork
          (fun h7 => holds_out (o23 a1 b1 a2 b2 h6 h7))
          (fun h7 => holds_true)))
        (fun h5 => holds_fork
         (fun h6 => holds_fork
          (fun h7 => holds_fork
           (fun h8 => holds_true)
           (fun h8 => holds_out (o24 a1 b1 a2 b2 h7 h8)))
          (fun h7 => holds_fork
           (fun h8 => holds_out (o25 a1 b1 a2 b2 h7 h8))
           (fun h8 => holds_true)))
         (fun h6 => holds_fork
          (fun h7 => holds_fork
           (fun h8 => holds_fork
            (fun h9 => holds_true)
            (fun h9 => holds_out (o26 a1 b1 a2 b2 h8 h9)))
           (fun h8 => holds_fork
            (fun h9 => holds_out (o27 a1 b1 a2 b2 h8 h9))
            (fun h9 => holds_true)))
          (fun h7 => holds_fork
           (fun h8 => holds_fork
            (fun h9 => holds_fork
             (fun h10 => holds_true)
             (fun h10 => holds_out (o28 a1 b1 a2 b2 h9 h10)))
            (fun h9 => holds_fork
             (fun h10 => holds_out (o29 a1 b1 a2 b2 h9 h10))
             (fun h10 => holds_true)))
           (fun h8 => holds_fork
            (fun h9 => holds_fork
             (fun h10 => holds_fork
              (fun h11 => holds_true)
              (fun h11 => holds_out (o30 a1 b1 a2 b2 h10 h11)))
             (fun h10 => holds_fork
              (fun h11 => holds_out (o31 a1 b1 a2 b2 h10 h11))
              (fun h11 => holds_true)))
            (fun h9 => holds_fork
             (fun h10 => holds_fork
              (fun h11 => holds_fork
               (fun h12 => holds_true)
               (fun h12 => holds_out (o32 a1 b1 a2 b2 h11 h12)))
              (fun h11 => holds_fork
               (fun h12 => holds_out (o33 a1 b1 a2 b2 h11 h12))
               (fun h12 => holds_true)))
             (fun h10 => holds_fork
              (fun h11 => holds_fork
               (fun h12 => holds_fork
                (fun h13 => holds_true)
                (fun h13 => holds_out (o34 a1 b1 a2 b2 h12 h13)))
               (fun h12 => holds_fork
                (fun h13 => holds_out (o35 a1 b1 a2 b2 h12 h13))
                (fun h13 => holds_true)))
              (fun h11 => holds_fork
               (fun h12 => holds_fork
                (fun h13 => holds_fork
                 (fun h14 => holds_true)
                 (fun h14 => holds_out (o36 a1 b1 a2 b2 h13 h14)))
                (fun h13 => holds_fork
                 (fun h14 => holds_out (o37 a1 b1 a2 b2 h13 h14))
                 (fun h14 => holds_true)))
               (fun h12 => holds_fork
                (fun h13 => holds_fork
                 (fun h14 => holds_fork
                  (fun h15 => holds_true)
                  (fun h15 => holds_out (o38 a1 b1 a2 b2 h14 h15)))
                 (fun h14 => holds_fork
                  (fun h15 => holds_out (o39 a1 b1 a2 b2 h14 h15))
                  (fun h15 => holds_true)))
                (fun h13 => holds_out (by simp only [e0, e13, e44, e45, e46, e49, e52, e55, e58, e61, e64, e67, e70, e73, IE.den, den_iff, BE.P, Bool.not_true, Bool.not_false, Int.ofNat_eq_natCast] at h0 h1 h2 h3 h4 h5 h6 h7 h8 h9 h10 h11 h12 h13; omega))))))))))))
      (fun h3 => holds_fork
       (fun h4 => holds_fork
        (fun h5 => holds_out (by simp only [e0, e13, e44, e45, e76, e1, IE.den, den_iff, BE.P, Bool.not_true, Bool.not_false, Int.ofNat_eq_natCast] at h0 h1 h2 h3 h4 h5; omega))
        (fun h5 => holds_fork
         (fun h6 => holds_out (by simp only [e0, e13, e44, e45, e76, e1, e2, IE.den, den_iff, BE.P, Bool.not_true, Bool.not_false, Int.ofNat_eq_natCast] at h0 h1 h2 h3 h4 h5 h6; omega))
         (fun h6 => holds_fork
          (fun h7 => holds_fork
           (fun h8 => holds_true)
           (fun h8 => holds_out (by simp only [e0, e13, e44, e45, e76, e1, e2, e3, e77, IE.den, den_iff, BE.P, Bool.not_true, Bool.not_false, Int.ofNat_eq_natCast] at h0 h1 h2 h3 h4 h5 h6 h7 h8; omega)))
          (fun h7 => holds_fork
           (fun h8 => holds_out (by simp only [e0, e13, e44, e45, e76, e1, e2, e3, e4, IE.den, den_iff, BE.P, Bool.not_true, Bool.not_false, Int.ofNat_eq_natCast] at h0 h1 h2 h3 h4 h5 h6 h7 h8; omega))
           (fun h8 => holds_fork
            (fun h9 => holds_out (by simp only [e0, e13, e44, e45, e76, e1, e2, e3, e4, e5, IE.den, den_iff, BE.P, Bool.not_true, Bool.not_false, Int.ofNat_eq_natCast] at h0 h1 h2 h3 h4 h5 h6 h7 h8 h9; omega))
            (fun h9 => holds_fork
             (fun h10 => holds_out (by simp only [e0, e13, e44, e45, e76, e1, e2, e3, e4, e5, e6, IE.den, den_iff, BE.P, Bool.not_true, Bool.not_false, Int.ofNat_eq_natCast] at h0 h1 h2 h3 h4 h5 h6 h7 h8 h9 h10; omega))
             (fun h10 => holds_fork
              (fun h11 => holds_out (by simp only [e0, e13, e44, e45, e76, e1, e2, e3, e4, e5, e6, e7, IE.den, den_iff, BE.P, Bool.not_true, Bool.not_false, Int.ofNat_eq_natCast] at h0 h1 h2 h3 h4 h5 h6 h7 h8 h9 h10 h11; omega))
              (fun h11 => holds_fork
               (fun h12 => holds_out (by simp only [e0, e13, e44, e45, e76, e1, e2, e3, e4, e5, e6, e7, e8, IE.den, den_iff, BE.P, Bool.not_true, Bool.not_false, Int.ofNat_eq_natCast] at h0 h1 h2 h3 h4 h5 h6 h7 h8 h9 h10 h11 h12; omega))
               (fun h12 => holds_fork
                (fun h13 => holds_fork
                 (fun h14 => holds_out (by simp only [e0, e13, e44, e45, e76, e1, e2, e3, e4, e5, e6, e7, e8, e9, e78, IE.den, den_iff, BE.P, Bool.not_true, Bool.not_false, Int.ofNat_eq_natCast] at h0 h1 h2 h3 h4 h5 h6 h7 h8 h9 h10 h11 h12 h13 h14; omega))
                 (fun h14 => holds_fork
                  (fun h15 => holds_fork
                   (fun h16 => holds_out (by simp only [e0, e13, e44, e45, e76, e1, e2, e3, e4, e5, e6, e7, e8, e9, e78, e10, e79, IE.den, den_iff, BE.P, Bool.not_true, Bool.not_false, Int.ofNat_eq_natCast] at h0 h1 h2 h3 h4 h5 h6 h7 h8 h9 h10 h11 h12 h13 h14 h15 h16; omega))
                   (fun h16 => holds_fork
                    (fun h17 => holds_out (by simp only [e0, e13, e44, e45, e76, e1, e2, e3, e4, e5, e6, e7, e8, e9, e78, e10, e79, e11, IE.den, den_iff, BE.P, Bool.not_true, Bool.not_false, Int.ofNat_eq_natCast] at h0 h1 h2 h3 h4 h5 h6 h7 h8 h9 h10 h11 h12 h13 h14 h15 h16 h17; omega))
                    (fun h17 => holds_fork
                     (fun h18 => holds_out (by simp only [e0, e13, e44, e45, e76, e1, e2, e3, e4, e5, e6, e7, e8, e9, e78, e10, e79, e11, e12, IE.den, den_iff, BE.P, Bool.not_true, Bool.not_false, Int.ofNat_eq_natCast] at h0 h1 h2 h3 h4 h5 h6 h7 h8 h9 h10 h11 h12 h13 h14 h15 h16 h17 h18; omega))
                     (fun h18 => holds_true))))
                  (fun h15 => holds_out (by simp only [e0, e13, e44, e45, e76, e1, e2, e3, e4, e5, e6, e7, e8, e9, e78, e10, IE.den, den_iff, BE.P, Bool.not_true, Bool.not_false, Int.ofNat_eq_natCast] at h0 h1 h2 h3 h4 h5 h6 h7 h8 h9 h10 h11 h12 h13 h14 h15; omega))))
                (fun h13 => holds_out (by simp only [e0, e13, e44, e45, e76, e1, e2, e3, e4, e5, e6, e7, e8, e9, IE.den, den_iff, BE.P, Bool.not_true, Bool.not_false, Int.ofNat_eq_natCast] at h0 h1 h2 h3 h4 h5 h6 h7 h8 h9 h10 h11 h12 h13; omega)))))))))))
       (fun h4 => holds_fork
        (fun h5 => holds_fork
         (fun h6 => holds_fork
          (fun h7 => holds_true)
          (fun h7 => holds_out (o40 a1 b1 a2 b2 h7)))
         (fun h6 => holds_fork
          (fun h7 => holds_fork
           (fun h8 => holds_true)
           (fun h8 => holds_out (o41 a1 b1 a2 b2 h8)))
          (fun h7 => holds_fork
           (fun h8 => holds_fork
            (fun h9 => holds_true)
            (fun h9 => holds_out (o42 a1 b1 a2 b2 h9)))
           (fun h8 => holds_fork
            (fun h9 => holds_fork
             (fun h10 => holds_fork
              (fun h11 => holds_fork
               (fun h12 => holds_true)
               (fun h12 => holds_fork
                (fun h13 => holds_fork
                 (fun h14 => holds_true)
                 (fun h14 => holds_fork
                  (fun h15 => holds_out (o43 a1 b1 a2 b2 h10 h11 h12 h13 h14 h15))
                  (fun h15 => holds_out (o44 a1 b1 a2 b2 h10 h11 h12 h13 h14 h15))))
                (fun h13 => holds_fork
                 (fun h14 => holds_out (o45 a1 b1 a2 b2 h10 h11 h12 h13 h14))
                 (fun h14 => holds_fork
                  (fun h15 => holds_out (o46 a1 b1 a2 b2 h10 h11 h12 h13 h14 h15))
                  (fun h15 => holds_out (o47 a1 b1 a2 b2 h10 h11 h12 h13 h14 h15))))))
              (fun h11 => holds_fork
               (fun h12 => holds_fork
                (fun h13 => holds_true)
                (fun h13 => holds_fork
                 (fun h14 => holds_fork
                  (fun h15 => holds_true)
                  (fun h15 => holds_fork
                   (fun h16 => holds_out (o48 a1 b1 a2 b2 h10 h11 h12 h13 h14 h15 h16))
                   (fun h16 => holds_out (o49 a1 b1 a2 b2 h10 h11 h12 h13 h14 h15 h16))))
                 (fun h14 => holds_fork
                  (fun h15 => holds_out (o50 a1 b1 a2 b2 h10 h11 h12 h13 h14 h15))
                  (fun h15 => holds_fork
                   (fun h16 => holds_out (o51 a1 b1 a2 b2 h10 h11 h12 h13 h14 h15 h16))
                   (fun h16 => holds_out (o52 a1 b1 a2 b2 h10 h11 h12 h13 h14 h15 h16))))))
               (fun h12 => holds_fork
                (fun h13 => holds_fork
                 (fun h14 => holds_out (o53 a1 b1 a2 b2 h10 h11 h12 h13 h14))
                 (fun h14 => holds_out (o54 a1 b1 a2 b2 h10 h11 h12 h13 h14)))
                (fun h13 => holds_fork
                 (fun h14 => holds_fork
                  (fun h15 => holds_fork
                   (fun h16 => holds_out (o55 a1 b1 a2 b2 h10 h11 h12 h13 h14 h15 h16))
                   (fun h16 => holds_out (o56 a1 b1 a2 b2 h10 h11 h12 h13 h14 h15 h16)))
                  (fun h15 => holds_fork
                   (fun h16 => holds_true)
                   (fun h16 => holds_out (o57 a1 b1 a2 b2 h10 h11 h12 h13 h14 h15 h16))))
                 (fun h14 => holds_fork
                  (fun h15 => holds_out (o58 a1 b1 a2 b2 h10 h11 h12 h13 h14 h15))
                  (fun h15 => holds_fork
                   (fun h16 => holds_true)
                   (fun h16 => holds_out (o59 a1 b1 a2 b2 h10 h11 h12 h13 h14 h15 h16))))))))
             (fun h10 => holds_fork
              (fun h11 => holds_fork
               (fun h12 => holds_true)
               (fun h12 => holds_fork
                (fun h13 => holds_fork
                 (fun h14 => holds_true)
                 (fun h14 => holds_fork
                  (fun h15 => holds_out (o60 a1 b1 a2 b2 h10 h11 h12 h13 h14 h15))
                  (fun h15 => holds_out (o61 a1 b1 a2 b2 h10 h11 h12 h13 h14 h15))))
                (fun h13 => holds_fork
                 (fun h14 => holds_out (o62 a1 b1 a2 b2 h10 h11 h12 h13 h14))
                 (fun h14 => holds_fork
                  (fun h15 => holds_out (o63 a1 b1 a2 b2 h10 h11 h12 h13 h14 h15))
                  (fun h15 => holds_out (o64 a1 b1 a2 b2 h10 h11 h12 h13 h14 h15))))))
              (fun h11 => holds_fork
               (fun h12 => holds_out (o65 a1 b1 a2 b2 h10 h11 h12))
               (fun h12 => holds_fork
                (fun h13 => holds_fork
                 (fun h14 => holds_out (o66 a1 b1 a2 b2 h10 h11 h12 h13 h14))
                 (fun h14 => holds_out (o67 a1 b1 a2 b2 h10 h11 h12 h13 h14)))
                (fun h13 => holds_fork
                 (fun h14 => holds_fork
                  (fun h15 => holds_fork
                   (fun h16 => holds_out (o68 a1 b1 a2 b2 h10 h11 h12 h13 h14 h15 h16))
                   (fun h16 => holds_out (o69 a1 b1 a2 b2 h10 h11 h12 h13 h14 h15 h16)))
                  (fun h15 => holds_fork
                   (fun h16 => holds_true)
                   (fun h16 => holds_out (o70 a1 b1 a2 b2 h10 h11 h12 h13 h14 h15 h16))))
                 (fun h14 => holds_fork
                  (fun h15 => holds_out (o71 a1 b1 a2 b2 h10 h11 h12 h13 h14 h15))
                  (fun h15 => holds_fork
                   (fun h16 => holds_true)
                   (fun h16 => holds_out (o72 a1 b1 a2 b2 h10 h11 h12 h13 h14 h15 h16)))))))))
            (fun h9 => holds_fork
             (fun h10 => holds_fork
              (fun h11 => holds_fork
               (fun h12 => holds_fork
                (fun h13 => holds_true)
                (fun h13 => holds_fork
                 (fun h14 => holds_out (o73 a1 b1 a2 b2 h11 h12 h13 h14))
                 (fun h14 => holds_out (o74 a1 b1 a2 b2 h11 h12 h13 h14))))
               (fun h12 => holds_fork
                (fun h13 => holds_fork
                 (fun h14 => holds_out (o75 a1 b1 a2 b2 h11 h12 h13 h14))
                 (fun h14 => holds_out (o76 a1 b1 a2 b2 h11 h12 h13 h14)))
                (fun h13 => holds_fork
                 (fun h14 => holds_true)
                 (fun h14 => holds_out (o77 a1 b1 a2 b2 h11 h12 h13 h14)))))
              (fun h11 => holds_fork
               (fun h12 => holds_fork
                (fun h13 => holds_true)
                (fun h13 => holds_fork
                 (fun h14 => holds_out (o78 a1 b1 a2 b2 h11 h12 h13 h14))
                 (fun h14 => holds_out (o79 a1 b1 a2 b2 h11 h12 h13 h14))))
               (fun h12 => holds_fork
                (fun h13 => holds_fork
                 (fun h14 => holds_out (o80 a1 b1 a2 b2 h11 h12 h13 h14))
                 (fun h14 => holds_out (o81 a1 b1 a2 b2 h11 h12 h13 h14)))
                (fun h13 => holds_fork
                 (fun h14 => holds_true)
                 (fun h14 => holds_out (o82 a1 b1 a2 b2 h11 h12 h13 h14))))))
             (fun h10 => holds_fork
              (fun h11 => holds_fork
               (fun h12 => holds_fork
                (fun h13 => holds_fork
                 (fun h14 => holds_true)
                 (fun h14 => holds_fork
                  (fun h15 => holds_out (o83 a1 b1 a2 b2 h12 h13 h14 h15))
                  (fun h15 => holds_fork
                   (fun h16 => holds_out (o45 a1 b1 a2 b2 h12 h13 h14 h15 h16))
                   (fun h16 => holds_fork
                    (fun h17 => holds_out (o84 a1 b1 a2 b2 h12 h13 h14 h15 h16 h17))
                    (fun h17 => holds_out (o85 a1 b1 a2 b2 h12 h13 h14 h15 h16 h17))))))
                (fun h13 => holds_fork
                 (fun h14 => holds_out (o86 a1 b1 a2 b2 h12 h13 h14))
                 (fun h14 => holds_fork
                  (fun h15 => holds_true)
                  (fun h15 => holds_fork
                   (fun h16 => holds_out (o87 a1 b1 a2 b2 h12 h13 h14 h15 h16))
                   (fun h16 => holds_fork
                    (fun h17 => holds_true)
                    (fun h17 => holds_out (o88 a1 b1 a2 b2 h12 h13 h14 h15 h16 h17)))))))
               (fun h12 => holds_fork
                (fun h13 => holds_fork
                 (fun h14 => holds_true)
                 (fun h14 => holds_fork
                  (fun h15 => holds_out (o89 a1 b1 a2 b2 h12 h13 h14 h15))
                  (fun h15 => holds_fork
                   (fun h16 => holds_out (o62 a1 b1 a2 b2 h12 h13 h14 h15 h16))
                   (fun h16 => holds_fork
                    (fun h17 => holds_out (o90 a1 b1 a2 b2 h12 h13 h14 h15 h16 h17))
                    (fun h17 => holds_out (o91 a1 b1 a2 b2 h12 h13 h14 h15 h16 h17))))))
                (fun h13 => holds_fork
                 (fun h14 => holds_out (o65 a1 b1 a2 b2 h12 h13 h14))
                 (fun h14 => holds_fork
                  (fun h15 => holds_fork
                   (fun h16 => holds_out (o92 a1 b1 a2 b2 h12 h13 h14 h15 h16))
                   (fun h16 => holds_out (o93 a1 b1 a2 b2 h12 h13 h14 h15 h16)))
                  (fun h15 => holds_fork
                   (fun h16 => holds_fork
                    (fun h17 => holds_true)
                    (fun h17 => holds_out (o94 a1 b1 a2 b2 h12 h13 h14 h15 h16 h17)))
                   (fun h16 => holds_fork
                    (fun h17 => holds_out (o71 a1 b1 a2 b2 h12 h13 h14 h15 h16 h17))
                    (fun h17 => holds_fork
                     (fun h18 => holds_true)
                     (fun h18 => holds_out (o95 a1 b1 a2 b2 h12 h13 h14 h15 h16 h17 h18)))))))))
              (fun h11 => holds_fork
               (fun h12 => holds_fork
                (fun h13 => holds_fork
                 (fun h14 => holds_fork
                  (fun h15 => holds_true)
                  (fun h15 => holds_fork
                   (fun h16 => holds_out (o96 a1 b1 a2 b2 h13 h14 h15 h16))
                   (fun h16 => holds_out (o97 a1 b1 a2 b2 h13 h14 h15 h16))))
                 (fun h14 => holds_fork
                  (fun h15 => holds_fork
                   (fun h16 => holds_out (o98 a1 b1 a2 b2 h13 h14 h15 h16))
                   (fun h16 => holds_out (o99 a1 b1 a2 b2 h13 h14 h15 h16)))
                  (fun h15 => holds_fork
                   (fun h16 => holds_true)
                   (fun h16 => holds_out (o100 a1 b1 a2 b2 h13 h14 h15 h16)))))
                (fun h13 => holds_fork
                 (fun h14 => holds_fork
                  (fun h15 => holds_true)
                  (fun h15 => holds_fork
                   (fun h16 => holds_out (o101 a1 b1 a2 b2 h13 h14 h15 h16))
                   (fun h16 => holds_out (o102 a1 b1 a2 b2 h13 h14 h15 h16))))
                 (fun h14 => holds_fork
                  (fun h15 => holds_fork
                   (fun h16 => holds_out (o103 a1 b1 a2 b2 h13 h14 h15 h16))
                   (fun h16 => holds_out (o104 a1 b1 a2 b2 h13 h14 h15 h16)))
                  (fun h15 => holds_fork
                   (fun h16 => holds_true)
                   (fun h16 => holds_out (o105 a1 b1 a2 b2 h13 h14 h15 h16))))))
               (fun h12 => holds_fork
                (fun h13 => holds_fork
                 (fun h14 => holds_true)
                 (fun h14 => holds_out (o106 a1 b1 a2 b2 h14)))
                (fun h13 => holds_fork
                 (fun h14 => holds_fork
                  (fun h15 => holds_true)
                  (fun h15 => holds_out (o107 a1 b1 a2 b2 h15)))
                 (fun h14 => holds_fork
                  (fun h15 => holds_fork
                   (fun h16 => holds_true)
                   (fun h16 => holds_out (o108 a1 b1 a2 b2 h16)))
                  (fun h15 => holds_fork
                   (fun h16 => holds_fork
                    (fun h17 => holds_fork
                     (fun h18 => holds_fork
                      (fun h19 => holds_true)
                      (fun h19 => holds_out (o109 a1 b1 a2 b2 h17 h18 h19)))
                     (fun h18 => holds_out (o110 a1 b1 a2 b2 h17 h18)))
                    (fun h17 => holds_out (o111 a1 b1 a2 b2 h17)))
                   (fun h16 => holds_fork
                    (fun h17 => holds_fork
                     (fun h18 => holds_fork
                      (fun h19 => holds_fork
                       (fun h20 => holds_true)
                       (fun h20 => holds_out (o112 a1 b1 a2 b2 h18 h19 h20)))
                      (fun h19 => holds_out (o110 a1 b1 a2 b2 h18 h19)))
                     (fun h18 => holds_out (o111 a1 b1 a2 b2 h18)))
                    (fun h17 => holds_fork
                     (fun h18 => holds_fork
                      (fun h19 => holds_fork
                       (fun h20 => holds_fork
                        (fun h21 => holds_true)
                        (fun h21 => holds_out (o113 a1 b1 a2 b2 h19 h20 h21)))
                       (fun h20 => holds_out (o110 a1 b1 a2 b2 h19 h20)))
                      (fun h19 => holds_out (o111 a1 b1 a2 b2 h19)))
                     (fun h18 => holds_fork
                      (fun h19 => holds_fork
                       (fun h20 => holds_fork
                        (fun h21 => holds_fork
                         (fun h22 => holds_fork
                          (fun h23 => holds_fork
                           (fun h24 => holds_true)
                           (fun h24 => holds_out (no134 a1 b1 h24)))
                          (fun h23 => holds_out (o114 a1 b1 a2 b2 h20 h21 h22 h23)))
                         (fun h22 => holds_out (o115 a1 b1 a2 b2 h20 h21 h22)))
                        (fun h21 => holds_out (o116 a1 b1 a2 b2 h20 h21)))
                       (fun h20 => holds_out (o117 a1 b1 a2 b2 h20)))
                      (fun h19 => holds_fork
                       (fun h20 => holds_fork
                        (fun h21 => holds_fork
                         (fun h22 => holds_fork
                          (fun h23 => holds_fork
                           (fun h24 => holds_fork
                            (fun h25 => holds_true)
                            (fun h25 => holds_out (no138 a1 b1 h25)))
                           (fun h24 => holds_out (o118 a1 b1 a2 b2 h21 h22 h23 h24)))
                          (fun h23 => holds_out (o119 a1 b1 a2 b2 h21 h22 h23)))
                         (fun h22 => holds_out (o120 a1 b1 a2 b2 h21 h22)))
                        (fun h21 => holds_out (o121 a1 b1 a2 b2 h21)))
                       (fun h20 => holds_out (by simp only [e0, e13, e44, e45, e76, e80, e81, e83, e85, e87, e104, e108, e112, e116, e118, e120, e122, e126, e128, e130, e135, IE.den, den_iff, BE.P, Bool.not_true, Bool.not_false, Int.ofNat_eq_natCast] at h0 h1 h2 h3 h4 h5 h6 h7 h8 h9 h10 h11 h12 h13 h14 h15 h16 h17 h18 h19 h20; omega)))))))))))))))))
        (fun h5 => holds_fork
         (fun h6 => holds_fork
          (fun h7 => holds_out (by simp only [e0, e13, e44, e45, e76, e80, e139, e1, IE.den, den_iff, BE.P, Bool.not_true, Bool.not_false, Int.ofNat_eq_natCast] at h0 h1 h2 h3 h4 h5 h6 h7; omega))
          (fun h7 => holds_fork
           (fun h8 => holds_out (by simp only [e0, e13, e44, e45, e76, e80, e139, e1, e2, IE.den, den_iff, BE.P, Bool.not_true, Bool.not_false, Int.ofNat_eq_natCast] at h0 h1 h2 h3 h4 h5 h6 h7 h8; omega))
           (fun h8 => holds_fork
            (fun h9 => holds_fork
             (fun h10 => holds_out (by simp only [e0, e13, e44, e45, e76, e80, e139, e1, e2, e3, e77, IE.den, den_iff, BE.P, Bool.not_true, Bool.not_false, Int.ofNat_eq_natCast] at h0 h1 h2 h3 h4 h5 h6 h7 h8 h9 h10; omega))
             (fun h10 => holds_fork
              (fun h11 => holds_fork
               (fun h12 => holds_true)
               (fun h12 => holds_out (by simp only [e0, e13, e44, e45, e76, e80, e139, e1, e2, e3, e77, e4, e140, IE.den, den_iff, BE.P, Bool.not_true, Bool.not_false, Int.ofNat_eq_natCast] at h0 h1 h2 h3 h4 h5 h6 h7 h8 h9 h10 h11 h12; omega)))
              (fun h11 => holds_out (by simp only [e0, e13, e44, e45, e76, e80, e139, e1, e2, e3, e77, e4, IE.den, den_iff, BE.P, Bool.not_true, Bool.not_false, Int.ofNat_eq_natCast] at h0 h1 h2 h3 h4 h5 h6 h7 h8 h9 h10 h11; omega))))
            (fun h9 => holds_out (by simp only [e0, e13, e44, e45, e76, e80, e139, e1, e2, e3, IE.den, den_iff, BE.P, Bool.not_true, Bool.not_false, Int.ofNat_eq_natCast] at h0 h1 h2 h3 h4 h5 h6 h7 h8 h9; omega)))))
         (fun h6 => holds_fork
          (fun h7 => holds_fork
           (fun h8 => holds_fork
            (fun h9 => holds_true)
            (fun h9 => holds_out (o122 a1 b1 a2 b2 h9)))
           (fun h8 => holds_fork
            (fun h9 => holds_fork
             (fun h10 => holds_true)
             (fun h10 => holds_out (o123 a1 b1 a2 b2 h10)))
            (fun h9 => holds_fork
             (fun h10 => holds_fork
              (fun h11 => holds_true)
              (fun h11 => holds_out (o124 a1 b1 a2 b2 h11)))
             (fun h10 => holds_fork
              (fun h11 => holds_fork
               (fun h12 => holds_fork
                (fun h13 => holds_true)
                (fun h13 => holds_fork
                 (fun h14 => holds_fork
                  (fun h15 => holds_true)
                  (fun h15 => holds_fork
                   (fun h16 => holds_fork
                    (fun h17 => holds_true)
                    (fun h17 => holds_fork
                     (fun h18 => holds_out (o125 a1 b1 a2 b2 h12 h13 h14 h15 h16 h17 h18))
                     (fun h18 => holds_out (o126 a1 b1 a2 b2 h12 h13 h14 h15 h16 h17 h18))))
                   (fun h16 => holds_fork
                    (fun h17 => holds_out (o127 a1 b1 a2 b2 h12 h13 h14 h15 h16 h17))
                    (fun h17 => holds_fork
                     (fun h18 => holds_out (o128 a1 b1 a2 b2 h12 h13 h14 h15 h16 h17 h18))
                     (fun h18 => holds_out (o129 a1 b1 a2 b2 h12 h13 h14 h15 h16 h17 h18))))))
                 (fun h14 => holds_fork
                  (fun h15 => holds_fork
                   (fun h16 => holds_out (o130 a1 b1 a2 b2 h12 h13 h14 h15 h16))
                   (fun h16 => holds_out (o131 a1 b1 a2 b2 h12 h13 h14 h15 h16)))
                  (fun h15 => holds_fork
                   (fun h16 => holds_fork
                    (fun h17 => holds_fork
                     (fun h18 => holds_out (o132 a1 b1 a2 b2 h12 h13 h14 h15 h16 h17 h18))
                     (fun h18 => holds_out (o133 a1 b1 a2 b2 h12 h13 h14 h15 h16 h17 h18)))
                    (fun h17 => holds_fork
                     (fun h18 => holds_true)
                     (fun h18 => holds_out (o134 a1 b1 a2 b2 h12 h13 h14 h15 h16 h17 h18))))
                   (fun h16 => holds_fork
                    (fun h17 => holds_out (o135 a1 b1 a2 b2 h12 h13 h14 h15 h16 h17))
                    (fun h17 => holds_fork
                     (fun h18 => holds_true)
                     (fun h18 => holds_out (o136 a1 b1 a2 b2 h12 h13 h14 h15 h16 h17 h18))))))))
               (fun h12 => holds_fork
                (fun h13 => holds_true)
                (fun h13 => holds_fork
                 (fun h14 => holds_out (o137 a1 b1 a2 b2 h12 h13 h14))
                 (fun h14 => holds_fork
                  (fun h15 => holds_fork
                   (fun h16 => holds_out (o138 a1 b1 a2 b2 h12 h13 h14 h15 h16))
                   (fun h16 => holds_out (o139 a1 b1 a2 b2 h12 h13 h14 h15 h16)))
                  (fun h15 => holds_fork
                   (fun h16 => holds_fork
                    (fun h17 => holds_fork
                     (fun h18 => holds_out (o140 a1 b1 a2 b2 h12 h13 h14 h15 h16 h17 h18))
                     (fun h18 => holds_out (o141 a1 b1 a2 b2 h12 h13 h14 h15 h16 h17 h18)))
                    (fun h17 => holds_fork
                     (fun h18 => holds_true)
                     (fun h18 => holds_out (o142 a1 b1 a2 b2 h12 h13 h14 h15 h16 h17 h18))))
                   (fun h16 => holds_fork
                    (fun h17 => holds_out (o143 a1 b1 a2 b2 h12 h13 h14 h15 h16 h17))
                    (fun h17 => holds_fork
                     (fun h18 => holds_true)
                     (fun h18 => holds_out (o144 a1 b1 a2 b2 h12 h13 h14 h15 h16 h17 h18)))))))))
              (fun h11 => holds_fork
               (fun h12 => holds_fork
                (fun h13 => holds_fork
                 (fun h14 => holds_true)
                 (fun h14 => holds_fork
                  (fun h15 => holds_fork
                   (fun h16 => holds_out (o145 a1 b1 a2 b2 h13 h14 h15 h16))
                   (fun h16 => holds_out (o146 a1 b1 a2 b2 h13 h14 h15 h16)))
                  (fun h15 => holds_fork
                   (fun h16 => holds_true)
                   (fun h16 => holds_out (o147 a1 b1 a2 b2 h13 h14 h15 h16)))))
                (fun h13 => holds_fork
                 (fun h14 => holds_true)
                 (fun h14 => holds_fork
                  (fun h15 => holds_fork
                   (fun h16 => holds_out (o148 a1 b1 a2 b2 h13 h14 h15 h16))
                   (fun h16 => holds_out (o149 a1 b1 a2 b2 h13 h14 h15 h16)))
                  (fun h15 => holds_fork
                   (fun h16 => holds_true)
                   (fun h16 => holds_out (o150 a1 b1 a2 b2 h13 h14 h15 h16))))))
               (fun h12 => holds_fork
                (fun h13 => holds_fork
                 (fun h14 => holds_fork
                  (fun h15 => holds_true)
                  (fun h15 => holds_fork
                   (fun h16 => holds_out (o151 a1 b1 a2 b2 h14 h15 h16))
                   (fun h16 => holds_fork
                    (fun h17 => holds_true)
                    (fun h17 => holds_fork
                     (fun h18 => holds_out (o152 a1 b1 a2 b2 h14 h15 h16 h17 h18))
                     (fun h18 => holds_fork
                      (fun h19 => holds_true)
                      (fun h19 => holds_out (o153 a1 b1 a2 b2 h14 h15 h16 h17 h18 h19)))))))
                 (fun h14 => holds_fork
                  (fun h15 => holds_true)
                  (fun h15 => holds_fork
                   (fun h16 => holds_out (o137 a1 b1 a2 b2 h14 h15 h16))
                   (fun h16 => holds_fork
                    (fun h17 => holds_fork
                     (fun h18 => holds_out (o154 a1 b1 a2 b2 h14 h15 h16 h17 h18))
                     (fun h18 => holds_out (o155 a1 b1 a2 b2 h14 h15 h16 h17 h18)))
                    (fun h17 => holds_fork
                     (fun h18 => holds_fork
                      (fun h19 => holds_true)
                      (fun h19 => holds_out (o156 a1 b1 a2 b2 h14 h15 h16 h17 h18 h19)))
                     (fun h18 => holds_fork
                      (fun h19 => holds_out (o143 a1 b1 a2 b2 h14 h15 h16 h17 h18 h19))
                      (fun h19 => holds_fork
                       (fun h20 => holds_true)
                       (fun h20 => holds_out (o157 a1 b1 a2 b2 h14 h15 h16 h17 h18 h19 h20)))))))))
                (fun h13 => holds_fork
                 (fun h14 => holds_fork
                  (fun h15 => holds_fork
                   (fun h16 => holds_true)
                   (fun h16 => holds_fork
                    (fun h17 => holds_fork
                     (fun h18 => holds_out (o158 a1 b1 a2 b2 h15 h16 h17 h18))
                     (fun h18 => holds_out (o159 a1 b1 a2 b2 h15 h16 h17 h18)))
                    (fun h17 => holds_fork
                     (fun h18 => holds_true)
                     (fun h18 => holds_out (o160 a1 b1 a2 b2 h15 h16 h17 h18)))))
                  (fun h15 => holds_fork
                   (fun h16 => holds_true)
                   (fun h16 => holds_fork
                    (fun h17 => holds_fork
                     (fun h18 => holds_out (o161 a1 b1 a2 b2 h15 h16 h17 h18))
                     (fun h18 => holds_out (o162 a1 b1 a2 b2 h15 h16 h17 h18)))
                    (fun h17 => holds_fork
                     (fun h18 => holds_true)
                     (fun h18 => holds_out (o163 a1 b1 a2 b2 h15 h16 h17 h18))))))
                 (fun h14 => holds_fork
                  (fun h15 => holds_fork
                   (fun h16 => holds_true)
                   (fun h16 => holds_out (o164 a1 b1 a2 b2 h16)))
                  (fun h15 => holds_fork
                   (fun h16 => holds_fork
                    (fun h17 => holds_true)
                    (fun h17 => holds_out (o165 a1 b1 a2 b2 h17)))
                   (fun h16 => holds_fork
                    (fun h17 => holds_fork
                     (fun h18 => holds_true)
                     (fun h18 => holds_out (o166 a1 b1 a2 b2 h18)))
                    (fun h17 => holds_fork
                     (fun h18 => holds_fork
                      (fun h19 => holds_fork
                       (fun h20 => holds_fork
                        (fun h21 => holds_true)
                        (fun h21 => holds_out (o167 a1 b1 a2 b2 h19 h20 h21)))
                       (fun h20 => holds_out (o168 a1 b1 a2 b2 h19 h20)))
                      (fun h19 => holds_out (o169 a1 b1 a2 b2 h19)))
                     (fun h18 => holds_fork
                      (fun h19 => holds_fork
                       (fun h20 => holds_fork
                        (fun h21 => holds_fork
                         (fun h22 => holds_true)
                         (fun h22 => holds_out (o170 a1 b1 a2 b2 h20 h21 h22)))
                        (fun h21 => holds_out (o168 a1 b1 a2 b2 h20 h21)))
                       (fun h20 => holds_out (o169 a1 b1 a2 b2 h20)))
                      (fun h19 => holds_fork
                       (fun h20 => holds_fork
                        (fun h21 => holds_fork
                         (fun h22 => holds_fork
                          (fun h23 => holds_true)
                          (fun h23 => holds_out (o171 a1 b1 a2 b2 h21 h22 h23)))
                         (fun h22 => holds_out (o168 a1 b1 a2 b2 h21 h22)))
                        (fun h21 => holds_out (o169 a1 b1 a2 b2 h21)))
                       (fun h20 => holds_fork
                        (fun h21 => holds_fork
                         (fun h22 => holds_fork
                          (fun h23 => holds_fork
                           (fun h24 => holds_fork
                            (fun h25 => holds_fork
                             (fun h26 => holds_true)
                             (fun h26 => holds_out (no193 a1 b1 h26)))
                            (fun h25 => holds_out (o172 a1 b1 a2 b2 h22 h23 h24 h25)))
                           (fun h24 => holds_out (o173 a1 b1 a2 b2 h22 h23 h24)))
                          (fun h23 => holds_out (o174 a1 b1 a2 b2 h22 h23)))
                         (fun h22 => holds_out (o175 a1 b1 a2 b2 h22)))
                        (fun h21 => holds_fork
                         (fun h22 => holds_fork
                          (fun h23 => holds_fork
                           (fun h24 => holds_fork
                            (fun h25 => holds_fork
                             (fun h26 => holds_fork
                              (fun h27 => holds_true)
                              (fun h27 => holds_out (no197 a1 b1 h27)))
                             (fun h26 => holds_out (o176 a1 b1 a2 b2 h23 h24 h25 h26)))
                            (fun h25 => holds_out (o177 a1 b1 a2 b2 h23 h24 h25)))
                           (fun h24 => holds_out (o178 a1 b1 a2 b2 h23 h24)))
                          (fun h23 => holds_out (o179 a1 b1 a2 b2 h23)))
                         (fun h22 => holds_out (by simp only [e0, e13, e44, e45, e76, e80, e139, e141, e142, e144, e146, e148, e165, e168, e172, e175, e177, e179, e181, e185, e187, e189, e194, IE.den, den_iff, BE.P, Bool.not_true, Bool.not_false, Int.ofNat_eq_natCast] at h0 h1 h2 h3 h4 h5 h6 h7 h8 h9 h10 h11 h12 h13 h14 h15 h16 h17 h18 h19 h20 h21 h22; omega)))))))))))))))))
          (fun h7 => holds_fork
           (fun h8 => holds_out (by simp only [e0, e13, e44, e45, e76, e80, e139, e141, e1, IE.den, den_iff, BE.P, Bool.not_true, Bool.not_false, Int.ofNat_eq_natCast] at h0 h1 h2 h3 h4 h5 h6 h7 h8; omega))
           (fun h8 => holds_fork
            (fun h9 => holds_out (by simp only [e0, e13, e44, e45, e76, e80, e139, e141, e1, e2, IE.den, den_iff, BE.P, Bool.not_true, Bool.not_false, Int.ofNat_eq_natCast] at h0 h1 h2 h3 h4 h5 h6 h7 h8 h9; omega))
            (fun h9 => holds_fork
             (fun h10 => holds_fork
              (fun h11 => holds_out (by simp only [e0, e13, e44, e45, e76, e80, e139, e141, e1, e2, e3, e77, IE.den, den_iff, BE.P, Bool.not_true, Bool.not_false, Int.ofNat_eq_natCast] at h0 h1 h2 h3 h4 h5 h6 h7 h8 h9 h10 h11; omega))
              (fun h11 => holds_fork
               (fun h12 => holds_fork
                (fun h13 => holds_out (by simp only [e0, e13, e44, e45, e76, e80, e139, e141, e1, e2, e3, e77, e4, e140, IE.den, den_iff, BE.P, Bool.not_true, Bool.not_false, Int.ofNat_eq_natCast] at h0 h1 h2 h3 h4 h5 h6 h7 h8 h9 h10 h11 h12 h13; omega))
                (fun h13 => holds_fork
                 (fun h14 => holds_true)
                 (fun h14 => holds_fork
                  (fun h15 => holds_true)
                  (fun h15 => holds_fork
                   (fun h16 => holds_true)
                   (fun h16 => holds_fork
                    (fun h17 => holds_fork
                     (fun h18 => holds_true)
                     (fun h18 => holds_fork
                      (fun h19 => holds_fork
                       (fun h20 => holds_out (by simp only [e0, e13, e44, e45, e76, e80, e139, e141, e1, e2, e3, e77, e4, e140, e5, e6, e7, e8, e198, e9, e78, IE.den, den_iff, BE.P, Bool.not_true, Bool.not_false, Int.ofNat_eq_natCast] at h0 h1 h2 h3 h4 h5 h6 h7 h8 h9 h10 h11 h12 h13 h14 h15 h16 h17 h18 h19 h20; omega))
                       (fun h20 => holds_fork
                        (fun h21 => holds_fork
                         (fun h22 => holds_out (by simp only [e0, e13, e44, e45, e76, e80, e139, e141, e1, e2, e3, e77, e4, e140, e5, e6, e7, e8, e198, e9, e78, e10, e79, IE.den, den_iff, BE.P, Bool.not_true, Bool.not_false, Int.ofNat_eq_natCast] at h0 h1 h2 h3 h4 h5 h6 h7 h8 h9 h10 h11 h12 h13 h14 h15 h16 h17 h18 h19 h20 h21 h22; omega))
                         (fun h22 => holds_fork
                          (fun h23 => holds_fork
                           (fun h24 => holds_out (by simp only [e0, e13, e44, e45, e76, e80, e139, e141, e1, e2, e3, e77, e4, e140, e5, e6, e7, e8, e198, e9, e78, e10, e79, e11, e199, IE.den, den_iff, BE.P, Bool.not_true, Bool.not_false, Int.ofNat_eq_natCast] at h0 h1 h2 h3 h4 h5 h6 h7 h8 h9 h10 h11 h12 h13 h14 h15 h16 h17 h18 h19 h20 h21 h22 h23 h24; omega))
                           (fun h24 => holds_fork
                            (fun h25 => holds_fork
                             (fun h26 => holds_out (by simp only [e0, e13, e44, e45, e76, e80, e139, e141, e1, e2, e3, e77, e4, e140, e5, e6, e7, e8, e198, e9, e78, e10, e79, e11, e199, e12, e200, IE.den, den_iff, BE.P, Bool.not_true, Bool.not_false, Int.ofNat_eq_natCast] at h0 h1 h2 h3 h4 h5 h6 h7 h8 h9 h10 h11 h12 h13 h14 h15 h16 h17 h18 h19 h20 h21 h22 h23 h24 h25 h26; omega))
                             (fun h26 => holds_true))
                            (fun h25 => holds_out (by simp only [e0, e13, e44, e45, e76, e80, e139, e141, e1, e2, e3, e77, e4, e140, e5, e6, e7, e8, e198, e9, e78, e10, e79, e11, e199, e12, IE.den, den_iff, BE.P, Bool.not_true, Bool.not_false, Int.ofNat_eq_natCast] at h0 h1 h2 h3 h4 h5 h6 h7 h8 h9 h10 h11 h12 h13 h14 h15 h16 h17 h18 h19 h20 h21 h22 h23 h24 h25; omega))))
                          (fun h23 => holds_out (by simp only [e0, e13, e44, e45, e76, e80, e139, e141, e1, e2, e3, e77, e4, e140, e5, e6, e7, e8, e198, e9, e78, e10, e79, e11, IE.den, den_iff, BE.P, Bool.not_true, Bool.not_false, Int.ofNat_eq_natCast] at h0 h1 h2 h3 h4 h5 h6 h7 h8 h9 h10 h11 h12 h13 h14 h15 h16 h17 h18 h19 h20 h21 h22 h23; omega))))
                        (fun h21 => holds_out (by simp only [e0, e13, e44, e45, e76, e80, e139, e141, e1, e2, e3, e77, e4, e140, e5, e6, e7, e8, e198, e9, e78, e10, IE.den, den_iff, BE.P, Bool.not_true, Bool.not_false, Int.ofNat_eq_natCast] at h0 h1 h2 h3 h4 h5 h6 h7 h8 h9 h10 h11 h12 h13 h14 h15 h16 h17 h18 h19 h20 h21; omega))))
                      (fun h19 => holds_out (by simp only [e0, e13, e44, e45, e76, e80, e139, e141, e1, e2, e3, e77, e4, e140, e5, e6, e7, e8, e198, e9, IE.den, den_iff, BE.P, Bool.not_true, Bool.not_false, Int.ofNat_eq_natCast] at h0 h1 h2 h3 h4 h5 h6 h7 h8 h9 h10 h11 h12 h13 h14 h15 h16 h17 h18 h19; omega))))
                    (fun h17 => holds_fork
                     (fun h18 => holds_fork
                      (fun h19 => holds_out (by simp only [e0, e13, e44, e45, e76, e80, e139, e141, e1, e2, e3, e77, e4, e140, e5, e6, e7, e8, e9, e78, IE.den, den_iff, BE.P, Bool.not_true, Bool.not_false, Int.ofNat_eq_natCast] at h0 h1 h2 h3 h4 h5 h6 h7 h8 h9 h10 h11 h12 h13 h14 h15 h16 h17 h18 h19; omega))
                      (fun h19 => holds_fork
                       (fun h20 => holds_fork
                        (fun h21 => holds_out (by simp only [e0, e13, e44, e45, e76, e80, e139, e141, e1, e2, e3, e77, e4, e140, e5, e6, e7, e8, e9, e78, e10, e79, IE.den, den_iff, BE.P, Bool.not_true, Bool.not_false, Int.ofNat_eq_natCast] at h0 h1 h2 h3 h4 h5 h6 h7 h8 h9 h10 h11 h12 h13 h14 h15 h16 h17 h18 h19 h20 h21; omega))
                        (fun h21 => holds_fork
                         (fun h22 => holds_fork
                          (fun h23 => holds_out (by simp only [e0, e13, e44, e45, e76, e80, e139, e141, e1, e2, e3, e77, e4, e140, e5, e6, e7, e8, e9, e78, e10, e79, e11, e199, IE.den, den_iff, BE.P, Bool.not_true, Bool.not_false, Int.ofNat_eq_natCast] at h0 h1 h2 h3 h4 h5 h6 h7 h8 h9 h10 h11 h12 h13 h14 h15 h16 h17 h18 h19 h20 h21 h22 h23; omega))
                          (fun h23 => holds_fork
                           (fun h24 => holds_fork
                            (fun h25 => holds_out (by simp only [e0, e13, e44, e45, e76, e80, e139, e141, e1, e2, e3, e77, e4, e140, e5, e6, e7, e8, e9, e78, e10, e79, e11, e199, e12, e200, IE.den, den_iff, BE.P, Bool.not_true, Bool.not_false, Int.ofNat_eq_natCast] at h0 h1 h2 h3 h4 h5 h6 h7 h8 h9 h10 h11 h12 h13 h14 h15 h16 h17 h18 h19 h20 h21 h22 h23 h24 h25; omega))
                            (fun h25 => holds_true))
                           (fun h24 => holds_out (by simp only [e0, e13, e44, e45, e76, e80, e139, e141, e1, e2, e3, e77, e4, e140, e5, e6, e7, e8, e9, e78, e10, e79, e11, e199, e12, IE.den, den_iff, BE.P, Bool.not_true, Bool.not_false, Int.ofNat_eq_natCast] at h0 h1 h2 h3 h4 h5 h6 h7 h8 h9 h10 h11 h12 h13 h14 h15 h16 h17 h18 h19 h20 h21 h22 h23 h24; omega))))
                         (fun h22 => holds_out (by simp only [e0, e13, e44, e45, e76, e80, e139, e141, e1, e2, e3, e77, e4, e140, e5, e6, e7, e8, e9, e78, e10, e79, e11, IE.den, den_iff, BE.P, Bool.not_true, Bool.not_false, Int.ofNat_eq_natCast] at h0 h1 h2 h3 h4 h5 h6 h7 h8 h9 h10 h11 h12 h13 h14 h15 h16 h17 h18 h19 h20 h21 h22; omega))))
                       (fun h20 => holds_out (by simp only [e0, e13, e44, e45, e76, e80, e139, e141, e1, e2, e3, e77, e4, e140, e5, e6, e7, e8, e9, e78, e10, IE.den, den_iff, BE.P, Bool.not_true, Bool.not_false, Int.ofNat_eq_natCast] at h0 h1 h2 h3 h4 h5 h6 h7 h8 h9 h10 h11 h12 h13 h14 h15 h16 h17 h18 h19 h20; omega))))
                     (fun h18 => holds_out (by simp only [e0, e13, e44, e45, e76, e80, e139, e141, e1, e2, e3, e77, e4, e140, e5, e6, e7, e8, e9, IE.den, den_iff, BE.P, Bool.not_true, Bool.not_false, Int.ofNat_eq_natCast] at h0 h1 h2 h3 h4 h5 h6 h7 h8 h9 h10 h11 h12 h13 h14 h15 h16 h17 h18; omega))))))))
               (fun h12 => holds_out (by simp only [e0, e13, e44, e45, e76, e80, e139, e141, e1, e2, e3, e77, e4, IE.den, den_iff, BE.P, Bool.not_true, Bool.not_false, Int.ofNat_eq_natCast] at h0 h1 h2 h3 h4 h5 h6 h7 h8 h9 h10 h11 h12; omega))))
             (fun h10 => holds_out (by simp only [e0, e13, e44, e45, e76, e80, e139, e141, e1, e2, e3, IE.den, den_iff, BE.P, Bool.not_true, Bool.not_false, Int.ofNat_eq_natCast] at h0 h1 h2 h3 h4 h5 h6 h7 h8 h9 h10; omega))))))))))))
end Go.Vm.VNumTwos
