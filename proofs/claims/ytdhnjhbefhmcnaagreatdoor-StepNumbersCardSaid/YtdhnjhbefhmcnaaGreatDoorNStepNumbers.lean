/- The law StepNumbers: what is to be shown of the numbers. -/
import Derived.Test.YtdhnjhbefhmcnaaGreatDoorVStepNumbersB
import Derived.Test.YtdhnjhbefhmcnaaGreatDoorVmTree
set_option linter.unusedVariables false
set_option linter.unusedSimpArgs false
namespace Go.Vm.VStepNumbers
open Go.Vm
section
variable {env : Nat → Int}
theorem shlN (k : IntKind) (x : Int) (m : Nat) (hm : m ≤ k.bits) : IOp.den .shl k x (m : Int) = x * ((2 ^ m : Nat) : Int) := by
  rw [shl_den, show min ((m : Int).toNat) k.bits = m by omega]
  norm_cast
theorem shrN (k : IntKind) (x : Int) (m : Nat) (hm : m ≤ k.bits) : IOp.den .shr k x (m : Int) = x / ((2 ^ m : Nat) : Int) := by
  rw [shr_den, show min ((m : Int).toNat) k.bits = m by omega, show ((2 : Int) ^ m) = ((2 ^ m : Nat) : Int) by norm_cast]
  exact Int.fdiv_eq_ediv_of_nonneg _ (Int.natCast_nonneg _)
theorem shl32 (k : IntKind) (hk : k.bits = 64) (x : Int) : IOp.den .shl k x ((32 : Nat) : Int) = x * 4294967296 := shlN k x 32 (by omega)
theorem shr32 (k : IntKind) (hk : k.bits = 64) (x : Int) : IOp.den .shr k x ((32 : Nat) : Int) = x / 4294967296 := shrN k x 32 (by omega)
theorem shl0 (k : IntKind) (x : Int) : IOp.den .shl k x ((0 : Nat) : Int) = x := by
  have := shlN k x 0 (by omega)
  rw [this]; simp
theorem shr0 (k : IntKind) (x : Int) : IOp.den .shr k x ((0 : Nat) : Int) = x := by
  have := shrN k x 0 (by omega)
  rw [this]; simp
theorem cut32 (x : Int) : IOp.den .shr .u64 (wrapF .u64 (IOp.den .shl .u64 x ((32 : Nat) : Int))) ((32 : Nat) : Int) = x % 4294967296 := by
  rw [shl32 _ rfl, shr32 _ rfl, wrap_u64]; omega
theorem cut0 (x : Int) : IOp.den .shr .u64 (wrapF .u64 (IOp.den .shl .u64 x ((0 : Nat) : Int))) ((0 : Nat) : Int) = x % 18446744073709551616 := by
  rw [shl0, shr0, wrap_u64]
theorem sgn32 (x : Int) : IOp.den .shr .i64 (wrapF .i64 (wrapF .u64 (IOp.den .shl .u64 (x % 4294967296) ((32 : Nat) : Int)))) ((32 : Nat) : Int) = (x + 2147483648) % 4294967296 - 2147483648 := by
  rw [shl32 _ rfl, shr32 _ rfl, wrap_u64, wrap_i64]; omega
theorem sgn0 (x : Int) : IOp.den .shr .i64 (wrapF .i64 (wrapF .u64 (IOp.den .shl .u64 (x % 18446744073709551616) ((0 : Nat) : Int)))) ((0 : Nat) : Int) = (x + 9223372036854775808) % 18446744073709551616 - 9223372036854775808 := by
  rw [shl0, shr0, wrap_u64, wrap_i64]; omega
theorem s_i64 (x : Int) : wrapF .i64 (wrapF .i32 (andF .u64 x ((4294967295 : Nat) : Int))) = (x + 2147483648) % 4294967296 - 2147483648 := by
  rw [wrap_i64, wrap_i32, and_low]; omega
theorem n32 (x : Int) : andF .i64 (wrapF .i64 (andF .u64 x ((4294967295 : Nat) : Int))) ((31 : Nat) : Int) = x % 32 := by
  rw [wrap_i64, and_low, and_i31]; omega
theorem n64 (x : Int) : andF .i64 (wrapF .i64 x) ((63 : Nat) : Int) = x % 64 := by
  rw [wrap_i64, and_i63]; omega
theorem t32 (x : Int) : (x % 4294967296).tmod ((32 : Nat) : Int) = x % 32 := by
  rw [Int.tmod_eq_emod_of_nonneg (by omega)]; omega
theorem t64 (x : Int) : (x % 18446744073709551616).tmod ((64 : Nat) : Int) = x % 64 := by
  rw [Int.tmod_eq_emod_of_nonneg (by omega)]; omega
theorem tdiv_neg1 (x : Int) : x.tdiv (-1) = -x := by rw [Int.tdiv_neg, Int.tdiv_one]
theorem tmod_neg1 (x : Int) : x.tmod (-1) = 0 := by rw [Int.tmod_neg, Int.tmod_one]
theorem neg1 : Int.negSucc 0 = -1 := rfl
theorem negA : Int.negSucc 2147483647 = -2147483648 := rfl
theorem negB : Int.negSucc 9223372036854775807 = -9223372036854775808 := rfl
theorem small {a b : Int} (ha : 0 ≤ a) (hb : 0 ≤ b) : 0 ≤ a.tdiv b ∧ a.tdiv b ≤ a ∧ 0 ≤ a.tmod b ∧ a.tmod b ≤ a := by
  have h1 := Int.tdiv_nonneg ha hb
  have h2 : a.tdiv b ≤ a := Int.tdiv_le_self b ha
  have h3 : 0 ≤ a.tmod b := Int.tmod_nonneg b ha
  have h4 : a.tdiv b * b + a.tmod b = a := by rw [Int.mul_comm]; exact Int.mul_tdiv_add_tmod a b
  have h5 := Int.mul_nonneg h1 hb
  exact ⟨h1, h2, h3, by omega⟩
theorem shr_lt (a1 : 0 ≤ env 1) (b1 : env 1 ≤ 18446744073709551615) (s : Int) : IOp.den .shr .u64 (env 1) s % 18446744073709551616 = IOp.den .shr .u64 (env 1) s := by
  rw [shr_den]
  generalize min s.toNat (IntKind.bits .u64) = j
  have hj : (0 : Int) ≤ 2 ^ j := Int.le_of_lt (Int.pow_pos (by decide))
  rw [Int.fdiv_eq_ediv_of_nonneg _ hj]
  have h1 := Int.ediv_nonneg a1 hj
  have h2 := Int.ediv_le_self (2 ^ j) a1
  omega
theorem imod_lt (x : Int) : imod x (two .u64) < 2 ^ 64 := by
  have h := imod_eq x (two .u64) (by decide)
  have h2 : ((two .u64 : Nat) : Int) = 18446744073709551616 := by decide
  rw [h2] at h
  omega
theorem and_lt (x y : Int) : andF .u64 x y % 18446744073709551616 = andF .u64 x y := by
  show ((Nat.land (imod x (two .u64)) (imod y (two .u64)) : Nat) : Int) % _ = ((Nat.land (imod x (two .u64)) (imod y (two .u64)) : Nat) : Int)
  have : Nat.land (imod x (two .u64)) (imod y (two .u64)) < 2 ^ 64 := Nat.and_lt_two_pow _ (imod_lt y)
  omega
theorem or_lt (x y : Int) : orF .u64 x y % 18446744073709551616 = orF .u64 x y := by
  show ((Nat.lor (imod x (two .u64)) (imod y (two .u64)) : Nat) : Int) % _ = ((Nat.lor (imod x (two .u64)) (imod y (two .u64)) : Nat) : Int)
  have : Nat.lor (imod x (two .u64)) (imod y (two .u64)) < 2 ^ 64 := Nat.or_lt_two_pow (imod_lt x) (imod_lt y)
  omega
theorem xor_lt (x y : Int) : xorF .u64 x y % 18446744073709551616 = xorF .u64 x y := by
  show ((Nat.xor (imod x (two .u64)) (imod y (two .u64)) : Nat) : Int) % _ = ((Nat.xor (imod x (two .u64)) (imod y (two .u64)) : Nat) : Int)
  have : Nat.xor (imod x (two .u64)) (imod y (two .u64)) < 2 ^ 64 := Nat.xor_lt_two_pow (imod_lt x) (imod_lt y)
  omega
theorem op_step {r : Int} (k : Nat) (h : (k : Int) ≤ r) (hn : r ≠ (k : Int)) : ((k + 1 : Nat) : Int) ≤ r := by omega
theorem op_ne (k : Nat) (e70 : (wrapF .i64 (env 0)).tmod ((70 : Nat) : Int) = env 0 % 70) (h : (BE.eq (.bin .tmod .i64 (.wrap .i64 (.v 0)) (.c (.ofNat 70))) (.c (.ofNat k))).den env = false) : env 0 % 70 ≠ (k : Int) := by
  rw [den_iff] at h
  have h : (wrapF .i64 (env 0)).tmod ((70 : Nat) : Int) ≠ (k : Int) := h
  rw [e70] at h
  exact h
theorem ee (x : Int) : x % 4294967296 % 4294967296 = x % 4294967296 := by omega
theorem mm (x : Int) : andF .u64 (andF .u64 x ((4294967295 : Nat) : Int)) ((4294967295 : Nat) : Int) = andF .u64 x ((4294967295 : Nat) : Int) := by
  rw [and_low, and_low]; omega
theorem leaf_of {e : BE} (h : e.den env = false → False) : e.den env = true := by
  cases hx : e.den env with
  | true => rfl
  | false => exact (h hx).elim
theorem o0 (a1 : 0 ≤ env 1) (b1 : env 1 ≤ 18446744073709551615) (a2 : 0 ≤ env 2) (b2 : env 2 ≤ 18446744073709551615) (h0 : e0.den env = true) (h1 : e1.den env = true) (h2 : e3.den env = true) (h3 : e4.den env = false) : False := by
  have m1 : env 1 % 18446744073709551616 = env 1 := by omega
  have m2 : env 2 % 18446744073709551616 = env 2 := by omega
  have m3 : (env 1).tmod (env 2) % 18446744073709551616 = (env 1).tmod (env 2) := by have := small a1 a2; omega
  simp only [e0, e1, e3, e4, IE.den, den_iff, BE.P, Bool.not_true, Bool.not_false, Int.ofNat_eq_natCast, den_and, den_tmod, s_i64, n32, n64, cut32, cut0, sgn32, sgn0, t32, t64, neg1, negA, negB, ↓mm] at h0 h1 h2 h3
  try simp only [mm, ee, den_add, den_sub, den_mul, den_tdiv, den_tmod, den_and, den_or, den_xor, and_low, and_31, and_63, and_lt, or_lt, xor_lt, shr_lt a1 b1, wrap_u32, wrap_u64, wrap_i32, wrap_i64, tdiv_neg1, tmod_neg1, m1, m2, m3] at h0 h1 h2 h3
  first | omega | (try simp only [not_true_eq_false] at *)
theorem o1 (a1 : 0 ≤ env 1) (b1 : env 1 ≤ 18446744073709551615) (a2 : 0 ≤ env 2) (b2 : env 2 ≤ 18446744073709551615) (h0 : e0.den env = true) (h1 : e1.den env = true) (h2 : e3.den env = false) (h3 : e4.den env = true) : False := by
  have m1 : env 1 % 18446744073709551616 = env 1 := by omega
  have m2 : env 2 % 18446744073709551616 = env 2 := by omega
  have m3 : (env 1).tmod (env 2) % 18446744073709551616 = (env 1).tmod (env 2) := by have := small a1 a2; omega
  simp only [e0, e1, e3, e4, IE.den, den_iff, BE.P, Bool.not_true, Bool.not_false, Int.ofNat_eq_natCast, den_and, den_tmod, s_i64, n32, n64, cut32, cut0, sgn32, sgn0, t32, t64, neg1, negA, negB, ↓mm] at h0 h1 h2 h3
  try simp only [mm, ee, den_add, den_sub, den_mul, den_tdiv, den_tmod, den_and, den_or, den_xor, and_low, and_31, and_63, and_lt, or_lt, xor_lt, shr_lt a1 b1, wrap_u32, wrap_u64, wrap_i32, wrap_i64, tdiv_neg1, tmod_neg1, m1, m2, m3] at h0 h1 h2 h3
  first | omega | (try simp only [not_true_eq_false] at *)
theorem o2 (a1 : 0 ≤ env 1) (b1 : env 1 ≤ 18446744073709551615) (a2 : 0 ≤ env 2) (b2 : env 2 ≤ 18446744073709551615) (h0 : e0.den env = true) (h1 : e1.den env = true) (h2 : e6.den env = true) (h3 : e7.den env = false) : False := by
  have m1 : env 1 % 18446744073709551616 = env 1 := by omega
  have m2 : env 2 % 18446744073709551616 = env 2 := by omega
  have m3 : (env 1).tmod (env 2) % 18446744073709551616 = (env 1).tmod (env 2) := by have := small a1 a2; omega
  simp only [e0, e1, e6, e7, IE.den, den_iff, BE.P, Bool.not_true, Bool.not_false, Int.ofNat_eq_natCast, den_and, den_tmod, s_i64, n32, n64, cut32, cut0, sgn32, sgn0, t32, t64, neg1, negA, negB, ↓mm] at h0 h1 h2 h3
  try simp only [mm, ee, den_add, den_sub, den_mul, den_tdiv, den_tmod, den_and, den_or, den_xor, and_low, and_31, and_63, and_lt, or_lt, xor_lt, shr_lt a1 b1, wrap_u32, wrap_u64, wrap_i32, wrap_i64, tdiv_neg1, tmod_neg1, m1, m2, m3] at h0 h1 h2 h3
  first | omega | (try simp only [not_true_eq_false] at *)
theorem o3 (a1 : 0 ≤ env 1) (b1 : env 1 ≤ 18446744073709551615) (a2 : 0 ≤ env 2) (b2 : env 2 ≤ 18446744073709551615) (h0 : e0.den env = true) (h1 : e1.den env = true) (h2 : e6.den env = false) (h3 : e7.den env = true) : False := by
  have m1 : env 1 % 18446744073709551616 = env 1 := by omega
  have m2 : env 2 % 18446744073709551616 = env 2 := by omega
  have m3 : (env 1).tmod (env 2) % 18446744073709551616 = (env 1).tmod (env 2) := by have := small a1 a2; omega
  simp only [e0, e1, e6, e7, IE.den, den_iff, BE.P, Bool.not_true, Bool.not_false, Int.ofNat_eq_natCast, den_and, den_tmod, s_i64, n32, n64, cut32, cut0, sgn32, sgn0, t32, t64, neg1, negA, negB, ↓mm] at h0 h1 h2 h3
  try simp only [mm, ee, den_add, den_sub, den_mul, den_tdiv, den_tmod, den_and, den_or, den_xor, and_low, and_31, and_63, and_lt, or_lt, xor_lt, shr_lt a1 b1, wrap_u32, wrap_u64, wrap_i32, wrap_i64, tdiv_neg1, tmod_neg1, m1, m2, m3] at h0 h1 h2 h3
  first | omega | (try simp only [not_true_eq_false] at *)
theorem o4 (a1 : 0 ≤ env 1) (b1 : env 1 ≤ 18446744073709551615) (a2 : 0 ≤ env 2) (b2 : env 2 ≤ 18446744073709551615) (h0 : e0.den env = true) (h1 : e1.den env = true) (h2 : e9.den env = true) (h3 : e10.den env = false) : False := by
  have m1 : env 1 % 18446744073709551616 = env 1 := by omega
  have m2 : env 2 % 18446744073709551616 = env 2 := by omega
  have m3 : (env 1).tmod (env 2) % 18446744073709551616 = (env 1).tmod (env 2) := by have := small a1 a2; omega
  simp only [e0, e1, e9, e10, IE.den, den_iff, BE.P, Bool.not_true, Bool.not_false, Int.ofNat_eq_natCast, den_and, den_tmod, s_i64, n32, n64, cut32, cut0, sgn32, sgn0, t32, t64, neg1, negA, negB, ↓mm] at h0 h1 h2 h3
  try simp only [mm, ee, den_add, den_sub, den_mul, den_tdiv, den_tmod, den_and, den_or, den_xor, and_low, and_31, and_63, and_lt, or_lt, xor_lt, shr_lt a1 b1, wrap_u32, wrap_u64, wrap_i32, wrap_i64, tdiv_neg1, tmod_neg1, m1, m2, m3] at h0 h1 h2 h3
  first | omega | (try simp only [not_true_eq_false] at *)
theorem o5 (a1 : 0 ≤ env 1) (b1 : env 1 ≤ 18446744073709551615) (a2 : 0 ≤ env 2) (b2 : env 2 ≤ 18446744073709551615) (h0 : e0.den env = true) (h1 : e1.den env = true) (h2 : e9.den env = false) (h3 : e10.den env = true) : False := by
  have m1 : env 1 % 18446744073709551616 = env 1 := by omega
  have m2 : env 2 % 18446744073709551616 = env 2 := by omega
  have m3 : (env 1).tmod (env 2) % 18446744073709551616 = (env 1).tmod (env 2) := by have := small a1 a2; omega
  simp only [e0, e1, e9, e10, IE.den, den_iff, BE.P, Bool.not_true, Bool.not_false, Int.ofNat_eq_natCast, den_and, den_tmod, s_i64, n32, n64, cut32, cut0, sgn32, sgn0, t32, t64, neg1, negA, negB, ↓mm] at h0 h1 h2 h3
  try simp only [mm, ee, den_add, den_sub, den_mul, den_tdiv, den_tmod, den_and, den_or, den_xor, and_low, and_31, and_63, and_lt, or_lt, xor_lt, shr_lt a1 b1, wrap_u32, wrap_u64, wrap_i32, wrap_i64, tdiv_neg1, tmod_neg1, m1, m2, m3] at h0 h1 h2 h3
  first | omega | (try simp only [not_true_eq_false] at *)
theorem o6 (a1 : 0 ≤ env 1) (b1 : env 1 ≤ 18446744073709551615) (a2 : 0 ≤ env 2) (b2 : env 2 ≤ 18446744073709551615) (h0 : e0.den env = true) (h1 : e1.den env = true) (h2 : e12.den env = true) (h3 : e13.den env = false) : False := by
  have m1 : env 1 % 18446744073709551616 = env 1 := by omega
  have m2 : env 2 % 18446744073709551616 = env 2 := by omega
  have m3 : (env 1).tmod (env 2) % 18446744073709551616 = (env 1).tmod (env 2) := by have := small a1 a2; omega
  simp only [e0, e1, e12, e13, IE.den, den_iff, BE.P, Bool.not_true, Bool.not_false, Int.ofNat_eq_natCast, den_and, den_tmod, s_i64, n32, n64, cut32, cut0, sgn32, sgn0, t32, t64, neg1, negA, negB, ↓mm] at h0 h1 h2 h3
  try simp only [mm, ee, den_add, den_sub, den_mul, den_tdiv, den_tmod, den_and, den_or, den_xor, and_low, and_31, and_63, and_lt, or_lt, xor_lt, shr_lt a1 b1, wrap_u32, wrap_u64, wrap_i32, wrap_i64, tdiv_neg1, tmod_neg1, m1, m2, m3] at h0 h1 h2 h3
  first | omega | (try simp only [not_true_eq_false] at *)
theorem o7 (a1 : 0 ≤ env 1) (b1 : env 1 ≤ 18446744073709551615) (a2 : 0 ≤ env 2) (b2 : env 2 ≤ 18446744073709551615) (h0 : e0.den env = true) (h1 : e1.den env = true) (h2 : e12.den env = false) (h3 : e13.den env = true) : False := by
  have m1 : env 1 % 18446744073709551616 = env 1 := by omega
  have m2 : env 2 % 18446744073709551616 = env 2 := by omega
  have m3 : (env 1).tmod (env 2) % 18446744073709551616 = (env 1).tmod (env 2) := by have := small a1 a2; omega
  simp only [e0, e1, e12, e13, IE.den, den_iff, BE.P, Bool.not_true, Bool.not_false, Int.ofNat_eq_natCast, den_and, den_tmod, s_i64, n32, n64, cut32, cut0, sgn32, sgn0, t32, t64, neg1, negA, negB, ↓mm] at h0 h1 h2 h3
  try simp only [mm, ee, den_add, den_sub, den_mul, den_tdiv, den_tmod, den_and, den_or, den_xor, and_low, and_31, and_63, and_lt, or_lt, xor_lt, shr_lt a1 b1, wrap_u32, wrap_u64, wrap_i32, wrap_i64, tdiv_neg1, tmod_neg1, m1, m2, m3] at h0 h1 h2 h3
  first | omega | (try simp only [not_true_eq_false] at *)
theorem o8 (a1 : 0 ≤ env 1) (b1 : env 1 ≤ 18446744073709551615) (a2 : 0 ≤ env 2) (b2 : env 2 ≤ 18446744073709551615) (h0 : e0.den env = true) (h1 : e1.den env = true) (h2 : e15.den env = true) (h3 : e16.den env = false) : False := by
  have m1 : env 1 % 18446744073709551616 = env 1 := by omega
  have m2 : env 2 % 18446744073709551616 = env 2 := by omega
  have m3 : (env 1).tmod (env 2) % 18446744073709551616 = (env 1).tmod (env 2) := by have := small a1 a2; omega
  simp only [e0, e1, e15, e16, IE.den, den_iff, BE.P, Bool.not_true, Bool.not_false, Int.ofNat_eq_natCast, den_and, den_tmod, s_i64, n32, n64, cut32, cut0, sgn32, sgn0, t32, t64, neg1, negA, negB, ↓mm] at h0 h1 h2 h3
  try simp only [mm, ee, den_add, den_sub, den_mul, den_tdiv, den_tmod, den_and, den_or, den_xor, and_low, and_31, and_63, and_lt, or_lt, xor_lt, shr_lt a1 b1, wrap_u32, wrap_u64, wrap_i32, wrap_i64, tdiv_neg1, tmod_neg1, m1, m2, m3] at h0 h1 h2 h3
  first | omega | (try simp only [not_true_eq_false] at *)
theorem o9 (a1 : 0 ≤ env 1) (b1 : env 1 ≤ 18446744073709551615) (a2 : 0 ≤ env 2) (b2 : env 2 ≤ 18446744073709551615) (h0 : e0.den env = true) (h1 : e1.den env = true) (h2 : e15.den env = false) (h3 : e16.den env = true) : False := by
  have m1 : env 1 % 18446744073709551616 = env 1 := by omega
  have m2 : env 2 % 18446744073709551616 = env 2 := by omega
  have m3 : (env 1).tmod (env 2) % 18446744073709551616 = (env 1).tmod (env 2) := by have := small a1 a2; omega
  simp only [e0, e1, e15, e16, IE.den, den_iff, BE.P, Bool.not_true, Bool.not_false, Int.ofNat_eq_natCast, den_and, den_tmod, s_i64, n32, n64, cut32, cut0, sgn32, sgn0, t32, t64, neg1, negA, negB, ↓mm] at h0 h1 h2 h3
  try simp only [mm, ee, den_add, den_sub, den_mul, den_tdiv, den_tmod, den_and, den_or, den_xor, and_low, and_31, and_63, and_lt, or_lt, xor_lt, shr_lt a1 b1, wrap_u32, wrap_u64, wrap_i32, wrap_i64, tdiv_neg1, tmod_neg1, m1, m2, m3] at h0 h1 h2 h3
  first | omega | (try simp only [not_true_eq_false] at *)
theorem o10 (a1 : 0 ≤ env 1) (b1 : env 1 ≤ 18446744073709551615) (a2 : 0 ≤ env 2) (b2 : env 2 ≤ 18446744073709551615) (h0 : e0.den env = true) (h1 : e1.den env = true) (h2 : e18.den env = true) (h3 : e19.den env = false) : False := by
  have m1 : env 1 % 18446744073709551616 = env 1 := by omega
  have m2 : env 2 % 18446744073709551616 = env 2 := by omega
  have m3 : (env 1).tmod (env 2) % 18446744073709551616 = (env 1).tmod (env 2) := by have := small a1 a2; omega
  simp only [e0, e1, e18, e19, IE.den, den_iff, BE.P, Bool.not_true, Bool.not_false, Int.ofNat_eq_natCast, den_and, den_tmod, s_i64, n32, n64, cut32, cut0, sgn32, sgn0, t32, t64, neg1, negA, negB, ↓mm] at h0 h1 h2 h3
  try simp only [mm, ee, den_add, den_sub, den_mul, den_tdiv, den_tmod, den_and, den_or, den_xor, and_low, and_31, and_63, and_lt, or_lt, xor_lt, shr_lt a1 b1, wrap_u32, wrap_u64, wrap_i32, wrap_i64, tdiv_neg1, tmod_neg1, m1, m2, m3] at h0 h1 h2 h3
  first | omega | (try simp only [not_true_eq_false] at *)
theorem o11 (a1 : 0 ≤ env 1) (b1 : env 1 ≤ 18446744073709551615) (a2 : 0 ≤ env 2) (b2 : env 2 ≤ 18446744073709551615) (h0 : e0.den env = true) (h1 : e1.den env = true) (h2 : e18.den env = false) (h3 : e19.den env = true) : False := by
  have m1 : env 1 % 18446744073709551616 = env 1 := by omega
  have m2 : env 2 % 18446744073709551616 = env 2 := by omega
  have m3 : (env 1).tmod (env 2) % 18446744073709551616 = (env 1).tmod (env 2) := by have := small a1 a2; omega
  simp only [e0, e1, e18, e19, IE.den, den_iff, BE.P, Bool.not_true, Bool.not_false, Int.ofNat_eq_natCast, den_and, den_tmod, s_i64, n32, n64, cut32, cut0, sgn32, sgn0, t32, t64, neg1, negA, negB, ↓mm] at h0 h1 h2 h3
  try simp only [mm, ee, den_add, den_sub, den_mul, den_tdiv, den_tmod, den_and, den_or, den_xor, and_low, and_31, and_63, and_lt, or_lt, xor_lt, shr_lt a1 b1, wrap_u32, wrap_u64, wrap_i32, wrap_i64, tdiv_neg1, tmod_neg1, m1, m2, m3] at h0 h1 h2 h3
  first | omega | (try simp only [not_true_eq_false] at *)
theorem o12 (a1 : 0 ≤ env 1) (b1 : env 1 ≤ 18446744073709551615) (a2 : 0 ≤ env 2) (b2 : env 2 ≤ 18446744073709551615) (h0 : e0.den env = true) (h1 : e1.den env = true) (h2 : e21.den env = true) (h3 : e22.den env = false) : False := by
  have m1 : env 1 % 18446744073709551616 = env 1 := by omega
  have m2 : env 2 % 18446744073709551616 = env 2 := by omega
  have m3 : (env 1).tmod (env 2) % 18446744073709551616 = (env 1).tmod (env 2) := by have := small a1 a2; omega
  simp only [e0, e1, e21, e22, IE.den, den_iff, BE.P, Bool.not_true, Bool.not_false, Int.ofNat_eq_natCast, den_and, den_tmod, s_i64, n32, n64, cut32, cut0, sgn32, sgn0, t32, t64, neg1, negA, negB, ↓mm] at h0 h1 h2 h3
  try simp only [mm, ee, den_add, den_sub, den_mul, den_tdiv, den_tmod, den_and, den_or, den_xor, and_low, and_31, and_63, and_lt, or_lt, xor_lt, shr_lt a1 b1, wrap_u32, wrap_u64, wrap_i32, wrap_i64, tdiv_neg1, tmod_neg1, m1, m2, m3] at h0 h1 h2 h3
  first | omega | (try simp only [not_true_eq_false] at *)
theorem o13 (a1 : 0 ≤ env 1) (b1 : env 1 ≤ 18446744073709551615) (a2 : 0 ≤ env 2) (b2 : env 2 ≤ 18446744073709551615) (h0 : e0.den env = true) (h1 : e1.den env = true) (h2 : e21.den env = false) (h3 : e22.den env = true) : False := by
  have m1 : env 1 % 18446744073709551616 = env 1 := by omega
  have m2 : env 2 % 18446744073709551616 = env 2 := by omega
  have m3 : (env 1).tmod (env 2) % 18446744073709551616 = (env 1).tmod (env 2) := by have := small a1 a2; omega
  simp only [e0, e1, e21, e22, IE.den, den_iff, BE.P, Bool.not_true, Bool.not_false, Int.ofNat_eq_natCast, den_and, den_tmod, s_i64, n32, n64, cut32, cut0, sgn32, sgn0, t32, t64, neg1, negA, negB, ↓mm] at h0 h1 h2 h3
  try simp only [mm, ee, den_add, den_sub, den_mul, den_tdiv, den_tmod, den_and, den_or, den_xor, and_low, and_31, and_63, and_lt, or_lt, xor_lt, shr_lt a1 b1, wrap_u32, wrap_u64, wrap_i32, wrap_i64, tdiv_neg1, tmod_neg1, m1, m2, m3] at h0 h1 h2 h3
  first | omega | (try simp only [not_true_eq_false] at *)
theorem o14 (a1 : 0 ≤ env 1) (b1 : env 1 ≤ 18446744073709551615) (a2 : 0 ≤ env 2) (b2 : env 2 ≤ 18446744073709551615) (h0 : e0.den env = true) (h1 : e1.den env = true) (h2 : e24.den env = true) (h3 : e25.den env = false) : False := by
  have m1 : env 1 % 18446744073709551616 = env 1 := by omega
  have m2 : env 2 % 18446744073709551616 = env 2 := by omega
  have m3 : (env 1).tmod (env 2) % 18446744073709551616 = (env 1).tmod (env 2) := by have := small a1 a2; omega
  simp only [e0, e1, e24, e25, IE.den, den_iff, BE.P, Bool.not_true, Bool.not_false, Int.ofNat_eq_natCast, den_and, den_tmod, s_i64, n32, n64, cut32, cut0, sgn32, sgn0, t32, t64, neg1, negA, negB, ↓mm] at h0 h1 h2 h3
  try simp only [mm, ee, den_add, den_sub, den_mul, den_tdiv, den_tmod, den_and, den_or, den_xor, and_low, and_31, and_63, and_lt, or_lt, xor_lt, shr_lt a1 b1, wrap_u32, wrap_u64, wrap_i32, wrap_i64, tdiv_neg1, tmod_neg1, m1, m2, m3] at h0 h1 h2 h3
  first | omega | (try simp only [not_true_eq_false] at *)
theorem o15 (a1 : 0 ≤ env 1) (b1 : env 1 ≤ 18446744073709551615) (a2 : 0 ≤ env 2) (b2 : env 2 ≤ 18446744073709551615) (h0 : e0.den env = true) (h1 : e1.den env = true) (h2 : e24.den env = false) (h3 : e25.den env = true) : False := by
  have m1 : env 1 % 18446744073709551616 = env 1 := by omega
  have m2 : env 2 % 18446744073709551616 = env 2 := by omega
  have m3 : (env 1).tmod (env 2) % 18446744073709551616 = (env 1).tmod (env 2) := by have := small a1 a2; omega
  simp only [e0, e1, e24, e25, IE.den, den_iff, BE.P, Bool.not_true, Bool.not_false, Int.ofNat_eq_natCast, den_and, den_tmod, s_i64, n32, n64, cut32, cut0, sgn32, sgn0, t32, t64, neg1, negA, negB, ↓mm] at h0 h1 h2 h3
  try simp only [mm, ee, den_add, den_sub, den_mul, den_tdiv, den_tmod, den_and, den_or, den_xor, and_low, and_31, and_63, and_lt, or_lt, xor_lt, shr_lt a1 b1, wrap_u32, wrap_u64, wrap_i32, wrap_i64, tdiv_neg1, tmod_neg1, m1, m2, m3] at h0 h1 h2 h3
  first | omega | (try simp only [not_true_eq_false] at *)
theorem o16 (a1 : 0 ≤ env 1) (b1 : env 1 ≤ 18446744073709551615) (a2 : 0 ≤ env 2) (b2 : env 2 ≤ 18446744073709551615) (h0 : e0.den env = true) (h1 : e1.den env = true) (h2 : e27.den env = true) (h3 : e28.den env = false) : False := by
  have m1 : env 1 % 18446744073709551616 = env 1 := by omega
  have m2 : env 2 % 18446744073709551616 = env 2 := by omega
  have m3 : (env 1).tmod (env 2) % 18446744073709551616 = (env 1).tmod (env 2) := by have := small a1 a2; omega
  simp only [e0, e1, e27, e28, IE.den, den_iff, BE.P, Bool.not_true, Bool.not_false, Int.ofNat_eq_natCast, den_and, den_tmod, s_i64, n32, n64, cut32, cut0, sgn32, sgn0, t32, t64, neg1, negA, negB, ↓mm] at h0 h1 h2 h3
  try simp only [mm, ee, den_add, den_sub, den_mul, den_tdiv, den_tmod, den_and, den_or, den_xor, and_low, and_31, and_63, and_lt, or_lt, xor_lt, shr_lt a1 b1, wrap_u32, wrap_u64, wrap_i32, wrap_i64, tdiv_neg1, tmod_neg1, m1, m2, m3] at h0 h1 h2 h3
  first | omega | (try simp only [not_true_eq_false] at *)
theorem o17 (a1 : 0 ≤ env 1) (b1 : env 1 ≤ 18446744073709551615) (a2 : 0 ≤ env 2) (b2 : env 2 ≤ 18446744073709551615) (h0 : e0.den env = true) (h1 : e1.den env = true) (h2 : e27.den env = false) (h3 : e28.den env = true) : False := by
  have m1 : env 1 % 18446744073709551616 = env 1 := by omega
  have m2 : env 2 % 18446744073709551616 = env 2 := by omega
  have m3 : (env 1).tmod (env 2) % 18446744073709551616 = (env 1).tmod (env 2) := by have := small a1 a2; omega
  simp only [e0, e1, e27, e28, IE.den, den_iff, BE.P, Bool.not_true, Bool.not_false, Int.ofNat_eq_natCast, den_and, den_tmod, s_i64, n32, n64, cut32, cut0, sgn32, sgn0, t32, t64, neg1, negA, negB, ↓mm] at h0 h1 h2 h3
  try simp only [mm, ee, den_add, den_sub, den_mul, den_tdiv, den_tmod, den_and, den_or, den_xor, and_low, and_31, and_63, and_lt, or_lt, xor_lt, shr_lt a1 b1, wrap_u32, wrap_u64, wrap_i32, wrap_i64, tdiv_neg1, tmod_neg1, m1, m2, m3] at h0 h1 h2 h3
  first | omega | (try simp only [not_true_eq_false] at *)
theorem o18 (a1 : 0 ≤ env 1) (b1 : env 1 ≤ 18446744073709551615) (a2 : 0 ≤ env 2) (b2 : env 2 ≤ 18446744073709551615) (h0 : e0.den env = true) (h1 : e1.den env = true) (h2 : e30.den env = true) (h3 : e31.den env = false) : False := by
  have m1 : env 1 % 18446744073709551616 = env 1 := by omega
  have m2 : env 2 % 18446744073709551616 = env 2 := by omega
  have m3 : (env 1).tmod (env 2) % 18446744073709551616 = (env 1).tmod (env 2) := by have := small a1 a2; omega
  simp only [e0, e1, e30, e31, IE.den, den_iff, BE.P, Bool.not_true, Bool.not_false, Int.ofNat_eq_natCast, den_and, den_tmod, s_i64, n32, n64, cut32, cut0, sgn32, sgn0, t32, t64, neg1, negA, negB, ↓mm] at h0 h1 h2 h3
  try simp only [mm, ee, den_add, den_sub, den_mul, den_tdiv, den_tmod, den_and, den_or, den_xor, and_low, and_31, and_63, and_lt, or_lt, xor_lt, shr_lt a1 b1, wrap_u32, wrap_u64, wrap_i32, wrap_i64, tdiv_neg1, tmod_neg1, m1, m2, m3] at h0 h1 h2 h3
  first | omega | (try simp only [not_true_eq_false] at *)
theorem o19 (a1 : 0 ≤ env 1) (b1 : env 1 ≤ 18446744073709551615) (a2 : 0 ≤ env 2) (b2 : env 2 ≤ 18446744073709551615) (h0 : e0.den env = true) (h1 : e1.den env = true) (h2 : e30.den env = false) (h3 : e31.den env = true) : False := by
  have m1 : env 1 % 18446744073709551616 = env 1 := by omega
  have m2 : env 2 % 18446744073709551616 = env 2 := by omega
  have m3 : (env 1).tmod (env 2) % 18446744073709551616 = (env 1).tmod (env 2) := by have := small a1 a2; omega
  simp only [e0, e1, e30, e31, IE.den, den_iff, BE.P, Bool.not_true, Bool.not_false, Int.ofNat_eq_natCast, den_and, den_tmod, s_i64, n32, n64, cut32, cut0, sgn32, sgn0, t32, t64, neg1, negA, negB, ↓mm] at h0 h1 h2 h3
  try simp only [mm, ee, den_add, den_sub, den_mul, den_tdiv, den_tmod, den_and, den_or, den_xor, and_low, and_31, and_63, and_lt, or_lt, xor_lt, shr_lt a1 b1, wrap_u32, wrap_u64, wrap_i32, wrap_i64, tdiv_neg1, tmod_neg1, m1, m2, m3] at h0 h1 h2 h3
  first | omega | (try simp only [not_true_eq_false] at *)
theorem o20 (a1 : 0 ≤ env 1) (b1 : env 1 ≤ 18446744073709551615) (a2 : 0 ≤ env 2) (b2 : env 2 ≤ 18446744073709551615) (h0 : e0.den env = true) (h1 : e1.den env = true) (h2 : e33.den env = true) (h3 : e34.den env = false) : False := by
  have m1 : env 1 % 18446744073709551616 = env 1 := by omega
  have m2 : env 2 % 18446744073709551616 = env 2 := by omega
  have m3 : (env 1).tmod (env 2) % 18446744073709551616 = (env 1).tmod (env 2) := by have := small a1 a2; omega
  simp only [e0, e1, e33, e34, IE.den, den_iff, BE.P, Bool.not_true, Bool.not_false, Int.ofNat_eq_natCast, den_and, den_tmod, s_i64, n32, n64, cut32, cut0, sgn32, sgn0, t32, t64, neg1, negA, negB, ↓mm] at h0 h1 h2 h3
  try simp only [mm, ee, den_add, den_sub, den_mul, den_tdiv, den_tmod, den_and, den_or, den_xor, and_low, and_31, and_63, and_lt, or_lt, xor_lt, shr_lt a1 b1, wrap_u32, wrap_u64, wrap_i32, wrap_i64, tdiv_neg1, tmod_neg1, m1, m2, m3] at h0 h1 h2 h3
  first | omega | (try simp only [not_true_eq_false] at *)
theorem o21 (a1 : 0 ≤ env 1) (b1 : env 1 ≤ 18446744073709551615) (a2 : 0 ≤ env 2) (b2 : env 2 ≤ 18446744073709551615) (h0 : e0.den env = true) (h1 : e1.den env = true) (h2 : e33.den env = false) (h3 : e34.den env = true) : False := by
  have m1 : env 1 % 18446744073709551616 = env 1 := by omega
  have m2 : env 2 % 18446744073709551616 = env 2 := by omega
  have m3 : (env 1).tmod (env 2) % 18446744073709551616 = (env 1).tmod (env 2) := by have := small a1 a2; omega
  simp only [e0, e1, e33, e34, IE.den, den_iff, BE.P, Bool.not_true, Bool.not_false, Int.ofNat_eq_natCast, den_and, den_tmod, s_i64, n32, n64, cut32, cut0, sgn32, sgn0, t32, t64, neg1, negA, negB, ↓mm] at h0 h1 h2 h3
  try simp only [mm, ee, den_add, den_sub, den_mul, den_tdiv, den_tmod, den_and, den_or, den_xor, and_low, and_31, and_63, and_lt, or_lt, xor_lt, shr_lt a1 b1, wrap_u32, wrap_u64, wrap_i32, wrap_i64, tdiv_neg1, tmod_neg1, m1, m2, m3] at h0 h1 h2 h3
  first | omega | (try simp only [not_true_eq_false] at *)
theorem o22 (a1 : 0 ≤ env 1) (b1 : env 1 ≤ 18446744073709551615) (a2 : 0 ≤ env 2) (b2 : env 2 ≤ 18446744073709551615) (h0 : e0.den env = true) (h1 : e1.den env = true) (h2 : e38.den env = true) (h3 : e39.den env = false) : False := by
  have m1 : env 1 % 18446744073709551616 = env 1 := by omega
  have m2 : env 2 % 18446744073709551616 = env 2 := by omega
  have m3 : (env 1).tmod (env 2) % 18446744073709551616 = (env 1).tmod (env 2) := by have := small a1 a2; omega
  simp only [e0, e1, e38, e39, IE.den, den_iff, BE.P, Bool.not_true, Bool.not_false, Int.ofNat_eq_natCast, den_and, den_tmod, s_i64, n32, n64, cut32, cut0, sgn32, sgn0, t32, t64, neg1, negA, negB, ↓mm] at h0 h1 h2 h3
  try simp only [mm, ee, den_add, den_sub, den_mul, den_tdiv, den_tmod, den_and, den_or, den_xor, and_low, and_31, and_63, and_lt, or_lt, xor_lt, shr_lt a1 b1, wrap_u32, wrap_u64, wrap_i32, wrap_i64, tdiv_neg1, tmod_neg1, m1, m2, m3] at h0 h1 h2 h3
  first | omega | (try simp only [not_true_eq_false] at *)
theorem o23 (a1 : 0 ≤ env 1) (b1 : env 1 ≤ 18446744073709551615) (a2 : 0 ≤ env 2) (b2 : env 2 ≤ 18446744073709551615) (h0 : e0.den env = true) (h1 : e1.den env = true) (h2 : e38.den env = false) (h3 : e39.den env = true) : False := by
  have m1 : env 1 % 18446744073709551616 = env 1 := by omega
  have m2 : env 2 % 18446744073709551616 = env 2 := by omega
  have m3 : (env 1).tmod (env 2) % 18446744073709551616 = (env 1).tmod (env 2) := by have := small a1 a2; omega
  simp only [e0, e1, e38, e39, IE.den, den_iff, BE.P, Bool.not_true, Bool.not_false, Int.ofNat_eq_natCast, den_and, den_tmod, s_i64, n32, n64, cut32, cut0, sgn32, sgn0, t32, t64, neg1, negA, negB, ↓mm] at h0 h1 h2 h3
  try simp only [mm, ee, den_add, den_sub, den_mul, den_tdiv, den_tmod, den_and, den_or, den_xor, and_low, and_31, and_63, and_lt, or_lt, xor_lt, shr_lt a1 b1, wrap_u32, wrap_u64, wrap_i32, wrap_i64, tdiv_neg1, tmod_neg1, m1, m2, m3] at h0 h1 h2 h3
  first | omega | (try simp only [not_true_eq_false] at *)
theorem o24 (a1 : 0 ≤ env 1) (b1 : env 1 ≤ 18446744073709551615) (a2 : 0 ≤ env 2) (b2 : env 2 ≤ 18446744073709551615) (h0 : e0.den env = true) (h1 : e1.den env = true) (h2 : e41.den env = true) (h3 : e42.den env = false) : False := by
  have m1 : env 1 % 18446744073709551616 = env 1 := by omega
  have m2 : env 2 % 18446744073709551616 = env 2 := by omega
  have m3 : (env 1).tmod (env 2) % 18446744073709551616 = (env 1).tmod (env 2) := by have := small a1 a2; omega
  simp only [e0, e1, e41, e42, IE.den, den_iff, BE.P, Bool.not_true, Bool.not_false, Int.ofNat_eq_natCast, den_and, den_tmod, s_i64, n32, n64, cut32, cut0, sgn32, sgn0, t32, t64, neg1, negA, negB, ↓mm] at h0 h1 h2 h3
  try simp only [mm, ee, den_add, den_sub, den_mul, den_tdiv, den_tmod, den_and, den_or, den_xor, and_low, and_31, and_63, and_lt, or_lt, xor_lt, shr_lt a1 b1, wrap_u32, wrap_u64, wrap_i32, wrap_i64, tdiv_neg1, tmod_neg1, m1, m2, m3] at h0 h1 h2 h3
  first | omega | (try simp only [not_true_eq_false] at *)
theorem o25 (a1 : 0 ≤ env 1) (b1 : env 1 ≤ 18446744073709551615) (a2 : 0 ≤ env 2) (b2 : env 2 ≤ 18446744073709551615) (h0 : e0.den env = true) (h1 : e1.den env = true) (h2 : e41.den env = false) (h3 : e42.den env = true) : False := by
  have m1 : env 1 % 18446744073709551616 = env 1 := by omega
  have m2 : env 2 % 18446744073709551616 = env 2 := by omega
  have m3 : (env 1).tmod (env 2) % 18446744073709551616 = (env 1).tmod (env 2) := by have := small a1 a2; omega
  simp only [e0, e1, e41, e42, IE.den, den_iff, BE.P, Bool.not_true, Bool.not_false, Int.ofNat_eq_natCast, den_and, den_tmod, s_i64, n32, n64, cut32, cut0, sgn32, sgn0, t32, t64, neg1, negA, negB, ↓mm] at h0 h1 h2 h3
  try simp only [mm, ee, den_add, den_sub, den_mul, den_tdiv, den_tmod, den_and, den_or, den_xor, and_low, and_31, and_63, and_lt, or_lt, xor_lt, shr_lt a1 b1, wrap_u32, wrap_u64, wrap_i32, wrap_i64, tdiv_neg1, tmod_neg1, m1, m2, m3] at h0 h1 h2 h3
  first | omega | (try simp only [not_true_eq_false] at *)
theorem o26 (a1 : 0 ≤ env 1) (b1 : env 1 ≤ 18446744073709551615) (a2 : 0 ≤ env 2) (b2 : env 2 ≤ 18446744073709551615) (h0 : e0.den env = true) (h1 : e1.den env = true) (h2 : e44.den env = true) (h3 : e45.den env = false) : False := by
  have m1 : env 1 % 18446744073709551616 = env 1 := by omega
  have m2 : env 2 % 18446744073709551616 = env 2 := by omega
  have m3 : (env 1).tmod (env 2) % 18446744073709551616 = (env 1).tmod (env 2) := by have := small a1 a2; omega
  simp only [e0, e1, e44, e45, IE.den, den_iff, BE.P, Bool.not_true, Bool.not_false, Int.ofNat_eq_natCast, den_and, den_tmod, s_i64, n32, n64, cut32, cut0, sgn32, sgn0, t32, t64, neg1, negA, negB, ↓mm] at h0 h1 h2 h3
  try simp only [mm, ee, den_add, den_sub, den_mul, den_tdiv, den_tmod, den_and, den_or, den_xor, and_low, and_31, and_63, and_lt, or_lt, xor_lt, shr_lt a1 b1, wrap_u32, wrap_u64, wrap_i32, wrap_i64, tdiv_neg1, tmod_neg1, m1, m2, m3] at h0 h1 h2 h3
  first | omega | (try simp only [not_true_eq_false] at *)
theorem o27 (a1 : 0 ≤ env 1) (b1 : env 1 ≤ 18446744073709551615) (a2 : 0 ≤ env 2) (b2 : env 2 ≤ 18446744073709551615) (h0 : e0.den env = true) (h1 : e1.den env = true) (h2 : e44.den env = false) (h3 : e45.den env = true) : False := by
  have m1 : env 1 % 18446744073709551616 = env 1 := by omega
  have m2 : env 2 % 18446744073709551616 = env 2 := by omega
  have m3 : (env 1).tmod (env 2) % 18446744073709551616 = (env 1).tmod (env 2) := by have := small a1 a2; omega
  simp only [e0, e1, e44, e45, IE.den, den_iff, BE.P, Bool.not_true, Bool.not_false, Int.ofNat_eq_natCast, den_and, den_tmod, s_i64, n32, n64, cut32, cut0, sgn32, sgn0, t32, t64, neg1, negA, negB, ↓mm] at h0 h1 h2 h3
  try simp only [mm, ee, den_add, den_sub, den_mul, den_tdiv, den_tmod, den_and, den_or, den_xor, and_low, and_31, and_63, and_lt, or_lt, xor_lt, shr_lt a1 b1, wrap_u32, wrap_u64, wrap_i32, wrap_i64, tdiv_neg1, tmod_neg1, m1, m2, m3] at h0 h1 h2 h3
  first | omega | (try simp only [not_true_eq_false] at *)
theorem o28 (a1 : 0 ≤ env 1) (b1 : env 1 ≤ 18446744073709551615) (a2 : 0 ≤ env 2) (b2 : env 2 ≤ 18446744073709551615) (h0 : e0.den env = true) (h1 : e1.den env = true) (h2 : e47.den env = true) (h3 : e48.den env = false) : False := by
  have m1 : env 1 % 18446744073709551616 = env 1 := by omega
  have m2 : env 2 % 18446744073709551616 = env 2 := by omega
  have m3 : (env 1).tmod (env 2) % 18446744073709551616 = (env 1).tmod (env 2) := by have := small a1 a2; omega
  simp only [e0, e1, e47, e48, IE.den, den_iff, BE.P, Bool.not_true, Bool.not_false, Int.ofNat_eq_natCast, den_and, den_tmod, s_i64, n32, n64, cut32, cut0, sgn32, sgn0, t32, t64, neg1, negA, negB, ↓mm] at h0 h1 h2 h3
  try simp only [mm, ee, den_add, den_sub, den_mul, den_tdiv, den_tmod, den_and, den_or, den_xor, and_low, and_31, and_63, and_lt, or_lt, xor_lt, shr_lt a1 b1, wrap_u32, wrap_u64, wrap_i32, wrap_i64, tdiv_neg1, tmod_neg1, m1, m2, m3] at h0 h1 h2 h3
  first | omega | (try simp only [not_true_eq_false] at *)
theorem o29 (a1 : 0 ≤ env 1) (b1 : env 1 ≤ 18446744073709551615) (a2 : 0 ≤ env 2) (b2 : env 2 ≤ 18446744073709551615) (h0 : e0.den env = true) (h1 : e1.den env = true) (h2 : e47.den env = false) (h3 : e48.den env = true) : False := by
  have m1 : env 1 % 18446744073709551616 = env 1 := by omega
  have m2 : env 2 % 18446744073709551616 = env 2 := by omega
  have m3 : (env 1).tmod (env 2) % 18446744073709551616 = (env 1).tmod (env 2) := by have := small a1 a2; omega
  simp only [e0, e1, e47, e48, IE.den, den_iff, BE.P, Bool.not_true, Bool.not_false, Int.ofNat_eq_natCast, den_and, den_tmod, s_i64, n32, n64, cut32, cut0, sgn32, sgn0, t32, t64, neg1, negA, negB, ↓mm] at h0 h1 h2 h3
  try simp only [mm, ee, den_add, den_sub, den_mul, den_tdiv, den_tmod, den_and, den_or, den_xor, and_low, and_31, and_63, and_lt, or_lt, xor_lt, shr_lt a1 b1, wrap_u32, wrap_u64, wrap_i32, wrap_i64, tdiv_neg1, tmod_neg1, m1, m2, m3] at h0 h1 h2 h3
  first | omega | (try simp only [not_true_eq_false] at *)
theorem o30 (a1 : 0 ≤ env 1) (b1 : env 1 ≤ 18446744073709551615) (a2 : 0 ≤ env 2) (b2 : env 2 ≤ 18446744073709551615) (h0 : e0.den env = true) (h1 : e1.den env = true) (h2 : e50.den env = true) (h3 : e51.den env = false) : False := by
  have m1 : env 1 % 18446744073709551616 = env 1 := by omega
  have m2 : env 2 % 18446744073709551616 = env 2 := by omega
  have m3 : (env 1).tmod (env 2) % 18446744073709551616 = (env 1).tmod (env 2) := by have := small a1 a2; omega
  simp only [e0, e1, e50, e51, IE.den, den_iff, BE.P, Bool.not_true, Bool.not_false, Int.ofNat_eq_natCast, den_and, den_tmod, s_i64, n32, n64, cut32, cut0, sgn32, sgn0, t32, t64, neg1, negA, negB, ↓mm] at h0 h1 h2 h3
  try simp only [mm, ee, den_add, den_sub, den_mul, den_tdiv, den_tmod, den_and, den_or, den_xor, and_low, and_31, and_63, and_lt, or_lt, xor_lt, shr_lt a1 b1, wrap_u32, wrap_u64, wrap_i32, wrap_i64, tdiv_neg1, tmod_neg1, m1, m2, m3] at h0 h1 h2 h3
  first | omega | (try simp only [not_true_eq_false] at *)
theorem o31 (a1 : 0 ≤ env 1) (b1 : env 1 ≤ 18446744073709551615) (a2 : 0 ≤ env 2) (b2 : env 2 ≤ 18446744073709551615) (h0 : e0.den env = true) (h1 : e1.den env = true) (h2 : e50.den env = false) (h3 : e51.den env = true) : False := by
  have m1 : env 1 % 18446744073709551616 = env 1 := by omega
  have m2 : env 2 % 18446744073709551616 = env 2 := by omega
  have m3 : (env 1).tmod (env 2) % 18446744073709551616 = (env 1).tmod (env 2) := by have := small a1 a2; omega
  simp only [e0, e1, e50, e51, IE.den, den_iff, BE.P, Bool.not_true, Bool.not_false, Int.ofNat_eq_natCast, den_and, den_tmod, s_i64, n32, n64, cut32, cut0, sgn32, sgn0, t32, t64, neg1, negA, negB, ↓mm] at h0 h1 h2 h3
  try simp only [mm, ee, den_add, den_sub, den_mul, den_tdiv, den_tmod, den_and, den_or, den_xor, and_low, and_31, and_63, and_lt, or_lt, xor_lt, shr_lt a1 b1, wrap_u32, wrap_u64, wrap_i32, wrap_i64, tdiv_neg1, tmod_neg1, m1, m2, m3] at h0 h1 h2 h3
  first | omega | (try simp only [not_true_eq_false] at *)
theorem o32 (a1 : 0 ≤ env 1) (b1 : env 1 ≤ 18446744073709551615) (a2 : 0 ≤ env 2) (b2 : env 2 ≤ 18446744073709551615) (h0 : e0.den env = true) (h1 : e1.den env = true) (h2 : e53.den env = true) (h3 : e54.den env = false) : False := by
  have m1 : env 1 % 18446744073709551616 = env 1 := by omega
  have m2 : env 2 % 18446744073709551616 = env 2 := by omega
  have m3 : (env 1).tmod (env 2) % 18446744073709551616 = (env 1).tmod (env 2) := by have := small a1 a2; omega
  simp only [e0, e1, e53, e54, IE.den, den_iff, BE.P, Bool.not_true, Bool.not_false, Int.ofNat_eq_natCast, den_and, den_tmod, s_i64, n32, n64, cut32, cut0, sgn32, sgn0, t32, t64, neg1, negA, negB, ↓mm] at h0 h1 h2 h3
  try simp only [mm, ee, den_add, den_sub, den_mul, den_tdiv, den_tmod, den_and, den_or, den_xor, and_low, and_31, and_63, and_lt, or_lt, xor_lt, shr_lt a1 b1, wrap_u32, wrap_u64, wrap_i32, wrap_i64, tdiv_neg1, tmod_neg1, m1, m2, m3] at h0 h1 h2 h3
  first | omega | (try simp only [not_true_eq_false] at *)
theorem o33 (a1 : 0 ≤ env 1) (b1 : env 1 ≤ 18446744073709551615) (a2 : 0 ≤ env 2) (b2 : env 2 ≤ 18446744073709551615) (h0 : e0.den env = true) (h1 : e1.den env = true) (h2 : e53.den env = false) (h3 : e54.den env = true) : False := by
  have m1 : env 1 % 18446744073709551616 = env 1 := by omega
  have m2 : env 2 % 18446744073709551616 = env 2 := by omega
  have m3 : (env 1).tmod (env 2) % 18446744073709551616 = (env 1).tmod (env 2) := by have := small a1 a2; omega
  simp only [e0, e1, e53, e54, IE.den, den_iff, BE.P, Bool.not_true, Bool.not_false, Int.ofNat_eq_natCast, den_and, den_tmod, s_i64, n32, n64, cut32, cut0, sgn32, sgn0, t32, t64, neg1, negA, negB, ↓mm] at h0 h1 h2 h3
  try simp only [mm, ee, den_add, den_sub, den_mul, den_tdiv, den_tmod, den_and, den_or, den_xor, and_low, and_31, and_63, and_lt, or_lt, xor_lt, shr_lt a1 b1, wrap_u32, wrap_u64, wrap_i32, wrap_i64, tdiv_neg1, tmod_neg1, m1, m2, m3] at h0 h1 h2 h3
  first | omega | (try simp only [not_true_eq_false] at *)
theorem o34 (a1 : 0 ≤ env 1) (b1 : env 1 ≤ 18446744073709551615) (a2 : 0 ≤ env 2) (b2 : env 2 ≤ 18446744073709551615) (h0 : e0.den env = true) (h1 : e1.den env = true) (h2 : e56.den env = true) (h3 : e57.den env = false) : False := by
  have m1 : env 1 % 18446744073709551616 = env 1 := by omega
  have m2 : env 2 % 18446744073709551616 = env 2 := by omega
  have m3 : (env 1).tmod (env 2) % 18446744073709551616 = (env 1).tmod (env 2) := by have := small a1 a2; omega
  simp only [e0, e1, e56, e57, IE.den, den_iff, BE.P, Bool.not_true, Bool.not_false, Int.ofNat_eq_natCast, den_and, den_tmod, s_i64, n32, n64, cut32, cut0, sgn32, sgn0, t32, t64, neg1, negA, negB, ↓mm] at h0 h1 h2 h3
  try simp only [mm, ee, den_add, den_sub, den_mul, den_tdiv, den_tmod, den_and, den_or, den_xor, and_low, and_31, and_63, and_lt, or_lt, xor_lt, shr_lt a1 b1, wrap_u32, wrap_u64, wrap_i32, wrap_i64, tdiv_neg1, tmod_neg1, m1, m2, m3] at h0 h1 h2 h3
  first | omega | (try simp only [not_true_eq_false] at *)
theorem o35 (a1 : 0 ≤ env 1) (b1 : env 1 ≤ 18446744073709551615) (a2 : 0 ≤ env 2) (b2 : env 2 ≤ 18446744073709551615) (h0 : e0.den env = true) (h1 : e1.den env = true) (h2 : e56.den env = false) (h3 : e57.den env = true) : False := by
  have m1 : env 1 % 18446744073709551616 = env 1 := by omega
  have m2 : env 2 % 18446744073709551616 = env 2 := by omega
  have m3 : (env 1).tmod (env 2) % 18446744073709551616 = (env 1).tmod (env 2) := by have := small a1 a2; omega
  simp only [e0, e1, e56, e57, IE.den, den_iff, BE.P, Bool.not_true, Bool.not_false, Int.ofNat_eq_natCast, den_and, den_tmod, s_i64, n32, n64, cut32, cut0, sgn32, sgn0, t32, t64, neg1, negA, negB, ↓mm] at h0 h1 h2 h3
  try simp only [mm, ee, den_add, den_sub, den_mul, den_tdiv, den_tmod, den_and, den_or, den_xor, and_low, and_31, and_63, and_lt, or_lt, xor_lt, shr_lt a1 b1, wrap_u32, wrap_u64, wrap_i32, wrap_i64, tdiv_neg1, tmod_neg1, m1, m2, m3] at h0 h1 h2 h3
  first | omega | (try simp only [not_true_eq_false] at *)
theorem o36 (a1 : 0 ≤ env 1) (b1 : env 1 ≤ 18446744073709551615) (a2 : 0 ≤ env 2) (b2 : env 2 ≤ 18446744073709551615) (h0 : e0.den env = true) (h1 : e1.den env = true) (h2 : e59.den env = true) (h3 : e60.den env = false) : False := by
  have m1 : env 1 % 18446744073709551616 = env 1 := by omega
  have m2 : env 2 % 18446744073709551616 = env 2 := by omega
  have m3 : (env 1).tmod (env 2) % 18446744073709551616 = (env 1).tmod (env 2) := by have := small a1 a2; omega
  simp only [e0, e1, e59, e60, IE.den, den_iff, BE.P, Bool.not_true, Bool.not_false, Int.ofNat_eq_natCast, den_and, den_tmod, s_i64, n32, n64, cut32, cut0, sgn32, sgn0, t32, t64, neg1, negA, negB, ↓mm] at h0 h1 h2 h3
  try simp only [mm, ee, den_add, den_sub, den_mul, den_tdiv, den_tmod, den_and, den_or, den_xor, and_low, and_31, and_63, and_lt, or_lt, xor_lt, shr_lt a1 b1, wrap_u32, wrap_u64, wrap_i32, wrap_i64, tdiv_neg1, tmod_neg1, m1, m2, m3] at h0 h1 h2 h3
  first | omega | (try simp only [not_true_eq_false] at *)
theorem o37 (a1 : 0 ≤ env 1) (b1 : env 1 ≤ 18446744073709551615) (a2 : 0 ≤ env 2) (b2 : env 2 ≤ 18446744073709551615) (h0 : e0.den env = true) (h1 : e1.den env = true) (h2 : e59.den env = false) (h3 : e60.den env = true) : False := by
  have m1 : env 1 % 18446744073709551616 = env 1 := by omega
  have m2 : env 2 % 18446744073709551616 = env 2 := by omega
  have m3 : (env 1).tmod (env 2) % 18446744073709551616 = (env 1).tmod (env 2) := by have := small a1 a2; omega
  simp only [e0, e1, e59, e60, IE.den, den_iff, BE.P, Bool.not_true, Bool.not_false, Int.ofNat_eq_natCast, den_and, den_tmod, s_i64, n32, n64, cut32, cut0, sgn32, sgn0, t32, t64, neg1, negA, negB, ↓mm] at h0 h1 h2 h3
  try simp only [mm, ee, den_add, den_sub, den_mul, den_tdiv, den_tmod, den_and, den_or, den_xor, and_low, and_31, and_63, and_lt, or_lt, xor_lt, shr_lt a1 b1, wrap_u32, wrap_u64, wrap_i32, wrap_i64, tdiv_neg1, tmod_neg1, m1, m2, m3] at h0 h1 h2 h3
  first | omega | (try simp only [not_true_eq_false] at *)
theorem o38 (a1 : 0 ≤ env 1) (b1 : env 1 ≤ 18446744073709551615) (a2 : 0 ≤ env 2) (b2 : env 2 ≤ 18446744073709551615) (h0 : e0.den env = true) (h1 : e1.den env = true) (h2 : e62.den env = true) (h3 : e63.den env = false) : False := by
  have m1 : env 1 % 18446744073709551616 = env 1 := by omega
  have m2 : env 2 % 18446744073709551616 = env 2 := by omega
  have m3 : (env 1).tmod (env 2) % 18446744073709551616 = (env 1).tmod (env 2) := by have := small a1 a2; omega
  simp only [e0, e1, e62, e63, IE.den, den_iff, BE.P, Bool.not_true, Bool.not_false, Int.ofNat_eq_natCast, den_and, den_tmod, s_i64, n32, n64, cut32, cut0, sgn32, sgn0, t32, t64, neg1, negA, negB, ↓mm] at h0 h1 h2 h3
  try simp only [mm, ee, den_add, den_sub, den_mul, den_tdiv, den_tmod, den_and, den_or, den_xor, and_low, and_31, and_63, and_lt, or_lt, xor_lt, shr_lt a1 b1, wrap_u32, wrap_u64, wrap_i32, wrap_i64, tdiv_neg1, tmod_neg1, m1, m2, m3] at h0 h1 h2 h3
  first | omega | (try simp only [not_true_eq_false] at *)
theorem o39 (a1 : 0 ≤ env 1) (b1 : env 1 ≤ 18446744073709551615) (a2 : 0 ≤ env 2) (b2 : env 2 ≤ 18446744073709551615) (h0 : e0.den env = true) (h1 : e1.den env = true) (h2 : e62.den env = false) (h3 : e63.den env = true) : False := by
  have m1 : env 1 % 18446744073709551616 = env 1 := by omega
  have m2 : env 2 % 18446744073709551616 = env 2 := by omega
  have m3 : (env 1).tmod (env 2) % 18446744073709551616 = (env 1).tmod (env 2) := by have := small a1 a2; omega
  simp only [e0, e1, e62, e63, IE.den, den_iff, BE.P, Bool.not_true, Bool.not_false, Int.ofNat_eq_natCast, den_and, den_tmod, s_i64, n32, n64, cut32, cut0, sgn32, sgn0, t32, t64, neg1, negA, negB, ↓mm] at h0 h1 h2 h3
  try simp only [mm, ee, den_add, den_sub, den_mul, den_tdiv, den_tmod, den_and, den_or, den_xor, and_low, and_31, and_63, and_lt, or_lt, xor_lt, shr_lt a1 b1, wrap_u32, wrap_u64, wrap_i32, wrap_i64, tdiv_neg1, tmod_neg1, m1, m2, m3] at h0 h1 h2 h3
  first | omega | (try simp only [not_true_eq_false] at *)
theorem o40 (a1 : 0 ≤ env 1) (b1 : env 1 ≤ 18446744073709551615) (a2 : 0 ≤ env 2) (b2 : env 2 ≤ 18446744073709551615) (h0 : e0.den env = true) (h1 : e1.den env = true) (h2 : e65.den env = true) (h3 : e66.den env = false) : False := by
  have m1 : env 1 % 18446744073709551616 = env 1 := by omega
  have m2 : env 2 % 18446744073709551616 = env 2 := by omega
  have m3 : (env 1).tmod (env 2) % 18446744073709551616 = (env 1).tmod (env 2) := by have := small a1 a2; omega
  simp only [e0, e1, e65, e66, IE.den, den_iff, BE.P, Bool.not_true, Bool.not_false, Int.ofNat_eq_natCast, den_and, den_tmod, s_i64, n32, n64, cut32, cut0, sgn32, sgn0, t32, t64, neg1, negA, negB, ↓mm] at h0 h1 h2 h3
  try simp only [mm, ee, den_add, den_sub, den_mul, den_tdiv, den_tmod, den_and, den_or, den_xor, and_low, and_31, and_63, and_lt, or_lt, xor_lt, shr_lt a1 b1, wrap_u32, wrap_u64, wrap_i32, wrap_i64, tdiv_neg1, tmod_neg1, m1, m2, m3] at h0 h1 h2 h3
  first | omega | (try simp only [not_true_eq_false] at *)
theorem o41 (a1 : 0 ≤ env 1) (b1 : env 1 ≤ 18446744073709551615) (a2 : 0 ≤ env 2) (b2 : env 2 ≤ 18446744073709551615) (h0 : e0.den env = true) (h1 : e1.den env = true) (h2 : e65.den env = false) (h3 : e66.den env = true) : False := by
  have m1 : env 1 % 18446744073709551616 = env 1 := by omega
  have m2 : env 2 % 18446744073709551616 = env 2 := by omega
  have m3 : (env 1).tmod (env 2) % 18446744073709551616 = (env 1).tmod (env 2) := by have := small a1 a2; omega
  simp only [e0, e1, e65, e66, IE.den, den_iff, BE.P, Bool.not_true, Bool.not_false, Int.ofNat_eq_natCast, den_and, den_tmod, s_i64, n32, n64, cut32, cut0, sgn32, sgn0, t32, t64, neg1, negA, negB, ↓mm] at h0 h1 h2 h3
  try simp only [mm, ee, den_add, den_sub, den_mul, den_tdiv, den_tmod, den_and, den_or, den_xor, and_low, and_31, and_63, and_lt, or_lt, xor_lt, shr_lt a1 b1, wrap_u32, wrap_u64, wrap_i32, wrap_i64, tdiv_neg1, tmod_neg1, m1, m2, m3] at h0 h1 h2 h3
  first | omega | (try simp only [not_true_eq_false] at *)
theorem o42 (a1 : 0 ≤ env 1) (b1 : env 1 ≤ 18446744073709551615) (a2 : 0 ≤ env 2) (b2 : env 2 ≤ 18446744073709551615) (h0 : e0.den env = true) (h1 : e1.den env = true) (h2 : e86.den env = true) (h3 : e87.den env = true) (h4 : e88.den env = false) (h5 : e89.den env = true) (h6 : e90.den env = false) : False := by
  have m1 : env 1 % 18446744073709551616 = env 1 := by omega
  have m2 : env 2 % 18446744073709551616 = env 2 := by omega
  have m3 : (env 1).tmod (env 2) % 18446744073709551616 = (env 1).tmod (env 2) := by have := small a1 a2; omega
  simp only [e0, e1, e86, e87, e88, e89, e90, IE.den, den_iff, BE.P, Bool.not_true, Bool.not_false, Int.ofNat_eq_natCast, den_and, den_tmod, s_i64, n32, n64, cut32, cut0, sgn32, sgn0, t32, t64, neg1, negA, negB, ↓mm] at h0 h1 h2 h3 h4 h5 h6
  try simp only [mm, ee, den_add, den_sub, den_mul, den_tdiv, den_tmod, den_and, den_or, den_xor, and_low, and_31, and_63, and_lt, or_lt, xor_lt, shr_lt a1 b1, wrap_u32, wrap_u64, wrap_i32, wrap_i64, tdiv_neg1, tmod_neg1, m1, m2, m3] at h0 h1 h2 h3 h4 h5 h6
  first | omega | (try simp only [not_true_eq_false] at *)
theorem o43 (a1 : 0 ≤ env 1) (b1 : env 1 ≤ 18446744073709551615) (a2 : 0 ≤ env 2) (b2 : env 2 ≤ 18446744073709551615) (h0 : e0.den env = true) (h1 : e1.den env = true) (h2 : e86.den env = true) (h3 : e87.den env = true) (h4 : e88.den env = false) (h5 : e89.den env = false) (h6 : e91.den env = true) : False := by
  have m1 : env 1 % 18446744073709551616 = env 1 := by omega
  have m2 : env 2 % 18446744073709551616 = env 2 := by omega
  have m3 : (env 1).tmod (env 2) % 18446744073709551616 = (env 1).tmod (env 2) := by have := small a1 a2; omega
  simp only [e0, e1, e86, e87, e88, e89, e91, IE.den, den_iff, BE.P, Bool.not_true, Bool.not_false, Int.ofNat_eq_natCast, den_and, den_tmod, s_i64, n32, n64, cut32, cut0, sgn32, sgn0, t32, t64, neg1, negA, negB, ↓mm] at h0 h1 h2 h3 h4 h5 h6
  try simp only [mm, ee, den_add, den_sub, den_mul, den_tdiv, den_tmod, den_and, den_or, den_xor, and_low, and_31, and_63, and_lt, or_lt, xor_lt, shr_lt a1 b1, wrap_u32, wrap_u64, wrap_i32, wrap_i64, tdiv_neg1, tmod_neg1, m1, m2, m3] at h0 h1 h2 h3 h4 h5 h6
  first | omega | (try simp only [not_true_eq_false] at *)
theorem o44 (a1 : 0 ≤ env 1) (b1 : env 1 ≤ 18446744073709551615) (a2 : 0 ≤ env 2) (b2 : env 2 ≤ 18446744073709551615) (h0 : e0.den env = true) (h1 : e1.den env = true) (h2 : e86.den env = true) (h3 : e87.den env = true) (h4 : e88.den env = false) (h5 : e89.den env = false) (h6 : e91.den env = false) : False := by
  have m1 : env 1 % 18446744073709551616 = env 1 := by omega
  have m2 : env 2 % 18446744073709551616 = env 2 := by omega
  have m3 : (env 1).tmod (env 2) % 18446744073709551616 = (env 1).tmod (env 2) := by have := small a1 a2; omega
  simp only [e0, e1, e86, e87, e88, e89, e91, IE.den, den_iff, BE.P, Bool.not_true, Bool.not_false, Int.ofNat_eq_natCast, den_and, den_tmod, s_i64, n32, n64, cut32, cut0, sgn32, sgn0, t32, t64, neg1, negA, negB, ↓mm] at h0 h1 h2 h3 h4 h5 h6
  try simp only [mm, ee, den_add, den_sub, den_mul, den_tdiv, den_tmod, den_and, den_or, den_xor, and_low, and_31, and_63, and_lt, or_lt, xor_lt, shr_lt a1 b1, wrap_u32, wrap_u64, wrap_i32, wrap_i64, tdiv_neg1, tmod_neg1, m1, m2, m3] at h0 h1 h2 h3 h4 h5 h6
  first | omega | (try simp only [not_true_eq_false] at *)
theorem o45 (a1 : 0 ≤ env 1) (b1 : env 1 ≤ 18446744073709551615) (a2 : 0 ≤ env 2) (b2 : env 2 ≤ 18446744073709551615) (h0 : e0.den env = true) (h1 : e1.den env = true) (h2 : e86.den env = true) (h3 : e87.den env = false) (h4 : e92.den env = true) (h5 : e88.den env = false) (h6 : e89.den env = true) (h7 : e90.den env = false) : False := by
  have m1 : env 1 % 18446744073709551616 = env 1 := by omega
  have m2 : env 2 % 18446744073709551616 = env 2 := by omega
  have m3 : (env 1).tmod (env 2) % 18446744073709551616 = (env 1).tmod (env 2) := by have := small a1 a2; omega
  simp only [e0, e1, e86, e87, e92, e88, e89, e90, IE.den, den_iff, BE.P, Bool.not_true, Bool.not_false, Int.ofNat_eq_natCast, den_and, den_tmod, s_i64, n32, n64, cut32, cut0, sgn32, sgn0, t32, t64, neg1, negA, negB, ↓mm] at h0 h1 h2 h3 h4 h5 h6 h7
  try simp only [mm, ee, den_add, den_sub, den_mul, den_tdiv, den_tmod, den_and, den_or, den_xor, and_low, and_31, and_63, and_lt, or_lt, xor_lt, shr_lt a1 b1, wrap_u32, wrap_u64, wrap_i32, wrap_i64, tdiv_neg1, tmod_neg1, m1, m2, m3] at h0 h1 h2 h3 h4 h5 h6 h7
  first | omega | (try simp only [not_true_eq_false] at *)
theorem o46 (a1 : 0 ≤ env 1) (b1 : env 1 ≤ 18446744073709551615) (a2 : 0 ≤ env 2) (b2 : env 2 ≤ 18446744073709551615) (h0 : e0.den env = true) (h1 : e1.den env = true) (h2 : e86.den env = true) (h3 : e87.den env = false) (h4 : e92.den env = true) (h5 : e88.den env = false) (h6 : e89.den env = false) (h7 : e91.den env = true) : False := by
  have m1 : env 1 % 18446744073709551616 = env 1 := by omega
  have m2 : env 2 % 18446744073709551616 = env 2 := by omega
  have m3 : (env 1).tmod (env 2) % 18446744073709551616 = (env 1).tmod (env 2) := by have := small a1 a2; omega
  simp only [e0, e1, e86, e87, e92, e88, e89, e91, IE.den, den_iff, BE.P, Bool.not_true, Bool.not_false, Int.ofNat_eq_natCast, den_and, den_tmod, s_i64, n32, n64, cut32, cut0, sgn32, sgn0, t32, t64, neg1, negA, negB, ↓mm] at h0 h1 h2 h3 h4 h5 h6 h7
  try simp only [mm, ee, den_add, den_sub, den_mul, den_tdiv, den_tmod, den_and, den_or, den_xor, and_low, and_31, and_63, and_lt, or_lt, xor_lt, shr_lt a1 b1, wrap_u32, wrap_u64, wrap_i32, wrap_i64, tdiv_neg1, tmod_neg1, m1, m2, m3] at h0 h1 h2 h3 h4 h5 h6 h7
  first | omega | (try simp only [not_true_eq_false] at *)
theorem o47 (a1 : 0 ≤ env 1) (b1 : env 1 ≤ 18446744073709551615) (a2 : 0 ≤ env 2) (b2 : env 2 ≤ 18446744073709551615) (h0 : e0.den env = true) (h1 : e1.den env = true) (h2 : e86.den env = true) (h3 : e87.den env = false) (h4 : e92.den env = true) (h5 : e88.den env = false) (h6 : e89.den env = false) (h7 : e91.den env = false) : False := by
  have m1 : env 1 % 18446744073709551616 = env 1 := by omega
  have m2 : env 2 % 18446744073709551616 = env 2 := by omega
  have m3 : (env 1).tmod (env 2) % 18446744073709551616 = (env 1).tmod (env 2) := by have := small a1 a2; omega
  simp only [e0, e1, e86, e87, e92, e88, e89, e91, IE.den, den_iff, BE.P, Bool.not_true, Bool.not_false, Int.ofNat_eq_natCast, den_and, den_tmod, s_i64, n32, n64, cut32, cut0, sgn32, sgn0, t32, t64, neg1, negA, negB, ↓mm] at h0 h1 h2 h3 h4 h5 h6 h7
  try simp only [mm, ee, den_add, den_sub, den_mul, den_tdiv, den_tmod, den_and, den_or, den_xor, and_low, and_31, and_63, and_lt, or_lt, xor_lt, shr_lt a1 b1, wrap_u32, wrap_u64, wrap_i32, wrap_i64, tdiv_neg1, tmod_neg1, m1, m2, m3] at h0 h1 h2 h3 h4 h5 h6 h7
  first | omega | (try simp only [not_true_eq_false] at *)
theorem o48 (a1 : 0 ≤ env 1) (b1 : env 1 ≤ 18446744073709551615) (a2 : 0 ≤ env 2) (b2 : env 2 ≤ 18446744073709551615) (h0 : e0.den env = true) (h1 : e1.den env = true) (h2 : e86.den env = true) (h3 : e87.den env = false) (h4 : e92.den env = false) (h5 : e88.den env = true) : False := by
  have m1 : env 1 % 18446744073709551616 = env 1 := by omega
  have m2 : env 2 % 18446744073709551616 = env 2 := by omega
  have m3 : (env 1).tmod (env 2) % 18446744073709551616 = (env 1).tmod (env 2) := by have := small a1 a2; omega
  simp only [e0, e1, e86, e87, e92, e88, IE.den, den_iff, BE.P, Bool.not_true, Bool.not_false, Int.ofNat_eq_natCast, den_and, den_tmod, s_i64, n32, n64, cut32, cut0, sgn32, sgn0, t32, t64, neg1, negA, negB, ↓mm] at h0 h1 h2 h3 h4 h5
  try simp only [mm, ee, den_add, den_sub, den_mul, den_tdiv, den_tmod, den_and, den_or, den_xor, and_low, and_31, and_63, and_lt, or_lt, xor_lt, shr_lt a1 b1, wrap_u32, wrap_u64, wrap_i32, wrap_i64, tdiv_neg1, tmod_neg1, m1, m2, m3] at h0 h1 h2 h3 h4 h5
  first | omega | (try simp only [not_true_eq_false] at *)
theorem o49 (a1 : 0 ≤ env 1) (b1 : env 1 ≤ 18446744073709551615) (a2 : 0 ≤ env 2) (b2 : env 2 ≤ 18446744073709551615) (h0 : e0.den env = true) (h1 : e1.den env = true) (h2 : e86.den env = true) (h3 : e87.den env = false) (h4 : e92.den env = false) (h5 : e88.den env = false) (h6 : e89.den env = true) (h7 : e90.den env = true) : False := by
  have m1 : env 1 % 18446744073709551616 = env 1 := by omega
  have m2 : env 2 % 18446744073709551616 = env 2 := by omega
  have m3 : (env 1).tmod (env 2) % 18446744073709551616 = (env 1).tmod (env 2) := by have := small a1 a2; omega
  simp only [e0, e1, e86, e87, e92, e88, e89, e90, IE.den, den_iff, BE.P, Bool.not_true, Bool.not_false, Int.ofNat_eq_natCast, den_and, den_tmod, s_i64, n32, n64, cut32, cut0, sgn32, sgn0, t32, t64, neg1, negA, negB, ↓mm] at h0 h1 h2 h3 h4 h5 h6 h7
  try simp only [mm, ee, den_add, den_sub, den_mul, den_tdiv, den_tmod, den_and, den_or, den_xor, and_low, and_31, and_63, and_lt, or_lt, xor_lt, shr_lt a1 b1, wrap_u32, wrap_u64, wrap_i32, wrap_i64, tdiv_neg1, tmod_neg1, m1, m2, m3] at h0 h1 h2 h3 h4 h5 h6 h7
  first | omega | (try simp only [not_true_eq_false] at *)
theorem o50 (a1 : 0 ≤ env 1) (b1 : env 1 ≤ 18446744073709551615) (a2 : 0 ≤ env 2) (b2 : env 2 ≤ 18446744073709551615) (h0 : e0.den env = true) (h1 : e1.den env = true) (h2 : e86.den env = true) (h3 : e87.den env = false) (h4 : e92.den env = false) (h5 : e88.den env = false) (h6 : e89.den env = false) (h7 : e91.den env = true) : False := by
  have m1 : env 1 % 18446744073709551616 = env 1 := by omega
  have m2 : env 2 % 18446744073709551616 = env 2 := by omega
  have m3 : (env 1).tmod (env 2) % 18446744073709551616 = (env 1).tmod (env 2) := by have := small a1 a2; omega
  simp only [e0, e1, e86, e87, e92, e88, e89, e91, IE.den, den_iff, BE.P, Bool.not_true, Bool.not_false, Int.ofNat_eq_natCast, den_and, den_tmod, s_i64, n32, n64, cut32, cut0, sgn32, sgn0, t32, t64, neg1, negA, negB, ↓mm] at h0 h1 h2 h3 h4 h5 h6 h7
  try simp only [mm, ee, den_add, den_sub, den_mul, den_tdiv, den_tmod, den_and, den_or, den_xor, and_low, and_31, and_63, and_lt, or_lt, xor_lt, shr_lt a1 b1, wrap_u32, wrap_u64, wrap_i32, wrap_i64, tdiv_neg1, tmod_neg1, m1, m2, m3] at h0 h1 h2 h3 h4 h5 h6 h7
  first | omega | (try simp only [not_true_eq_false] at *)
theorem o51 (a1 : 0 ≤ env 1) (b1 : env 1 ≤ 18446744073709551615) (a2 : 0 ≤ env 2) (b2 : env 2 ≤ 18446744073709551615) (h0 : e0.den env = true) (h1 : e1.den env = true) (h2 : e86.den env = false) (h3 : e87.den env = true) (h4 : e88.den env = false) (h5 : e89.den env = true) (h6 : e90.den env = false) : False := by
  have m1 : env 1 % 18446744073709551616 = env 1 := by omega
  have m2 : env 2 % 18446744073709551616 = env 2 := by omega
  have m3 : (env 1).tmod (env 2) % 18446744073709551616 = (env 1).tmod (env 2) := by have := small a1 a2; omega
  simp only [e0, e1, e86, e87, e88, e89, e90, IE.den, den_iff, BE.P, Bool.not_true, Bool.not_false, Int.ofNat_eq_natCast, den_and, den_tmod, s_i64, n32, n64, cut32, cut0, sgn32, sgn0, t32, t64, neg1, negA, negB, ↓mm] at h0 h1 h2 h3 h4 h5 h6
  try simp only [mm, ee, den_add, den_sub, den_mul, den_tdiv, den_tmod, den_and, den_or, den_xor, and_low, and_31, and_63, and_lt, or_lt, xor_lt, shr_lt a1 b1, wrap_u32, wrap_u64, wrap_i32, wrap_i64, tdiv_neg1, tmod_neg1, m1, m2, m3] at h0 h1 h2 h3 h4 h5 h6
  first | omega | (try simp only [not_true_eq_false] at *)
theorem o52 (a1 : 0 ≤ env 1) (b1 : env 1 ≤ 18446744073709551615) (a2 : 0 ≤ env 2) (b2 : env 2 ≤ 18446744073709551615) (h0 : e0.den env = true) (h1 : e1.den env = true) (h2 : e86.den env = false) (h3 : e87.den env = true) (h4 : e88.den env = false) (h5 : e89.den env = false) (h6 : e91.den env = true) : False := by
  have m1 : env 1 % 18446744073709551616 = env 1 := by omega
  have m2 : env 2 % 18446744073709551616 = env 2 := by omega
  have m3 : (env 1).tmod (env 2) % 18446744073709551616 = (env 1).tmod (env 2) := by have := small a1 a2; omega
  simp only [e0, e1, e86, e87, e88, e89, e91, IE.den, den_iff, BE.P, Bool.not_true, Bool.not_false, Int.ofNat_eq_natCast, den_and, den_tmod, s_i64, n32, n64, cut32, cut0, sgn32, sgn0, t32, t64, neg1, negA, negB, ↓mm] at h0 h1 h2 h3 h4 h5 h6
  try simp only [mm, ee, den_add, den_sub, den_mul, den_tdiv, den_tmod, den_and, den_or, den_xor, and_low, and_31, and_63, and_lt, or_lt, xor_lt, shr_lt a1 b1, wrap_u32, wrap_u64, wrap_i32, wrap_i64, tdiv_neg1, tmod_neg1, m1, m2, m3] at h0 h1 h2 h3 h4 h5 h6
  first | omega | (try simp only [not_true_eq_false] at *)
theorem o53 (a1 : 0 ≤ env 1) (b1 : env 1 ≤ 18446744073709551615) (a2 : 0 ≤ env 2) (b2 : env 2 ≤ 18446744073709551615) (h0 : e0.den env = true) (h1 : e1.den env = true) (h2 : e86.den env = false) (h3 : e87.den env = true) (h4 : e88.den env = false) (h5 : e89.den env = false) (h6 : e91.den env = false) : False := by
  have m1 : env 1 % 18446744073709551616 = env 1 := by omega
  have m2 : env 2 % 18446744073709551616 = env 2 := by omega
  have m3 : (env 1).tmod (env 2) % 18446744073709551616 = (env 1).tmod (env 2) := by have := small a1 a2; omega
  simp only [e0, e1, e86, e87, e88, e89, e91, IE.den, den_iff, BE.P, Bool.not_true, Bool.not_false, Int.ofNat_eq_natCast, den_and, den_tmod, s_i64, n32, n64, cut32, cut0, sgn32, sgn0, t32, t64, neg1, negA, negB, ↓mm] at h0 h1 h2 h3 h4 h5 h6
  try simp only [mm, ee, den_add, den_sub, den_mul, den_tdiv, den_tmod, den_and, den_or, den_xor, and_low, and_31, and_63, and_lt, or_lt, xor_lt, shr_lt a1 b1, wrap_u32, wrap_u64, wrap_i32, wrap_i64, tdiv_neg1, tmod_neg1, m1, m2, m3] at h0 h1 h2 h3 h4 h5 h6
  first | omega | (try simp only [not_true_eq_false] at *)
theorem o54 (a1 : 0 ≤ env 1) (b1 : env 1 ≤ 18446744073709551615) (a2 : 0 ≤ env 2) (b2 : env 2 ≤ 18446744073709551615) (h0 : e0.den env = true) (h1 : e1.den env = true) (h2 : e86.den env = false) (h3 : e87.den env = false) (h4 : e93.den env = true) : False := by
  have m1 : env 1 % 18446744073709551616 = env 1 := by omega
  have m2 : env 2 % 18446744073709551616 = env 2 := by omega
  have m3 : (env 1).tmod (env 2) % 18446744073709551616 = (env 1).tmod (env 2) := by have := small a1 a2; omega
  simp only [e0, e1, e86, e87, e93, IE.den, den_iff, BE.P, Bool.not_true, Bool.not_false, Int.ofNat_eq_natCast, den_and, den_tmod, s_i64, n32, n64, cut32, cut0, sgn32, sgn0, t32, t64, neg1, negA, negB, ↓mm] at h0 h1 h2 h3 h4
  try simp only [mm, ee, den_add, den_sub, den_mul, den_tdiv, den_tmod, den_and, den_or, den_xor, and_low, and_31, and_63, and_lt, or_lt, xor_lt, shr_lt a1 b1, wrap_u32, wrap_u64, wrap_i32, wrap_i64, tdiv_neg1, tmod_neg1, m1, m2, m3] at h0 h1 h2 h3 h4
  first | omega | (try simp only [not_true_eq_false] at *)
theorem o55 (a1 : 0 ≤ env 1) (b1 : env 1 ≤ 18446744073709551615) (a2 : 0 ≤ env 2) (b2 : env 2 ≤ 18446744073709551615) (h0 : e0.den env = true) (h1 : e1.den env = true) (h2 : e86.den env = false) (h3 : e87.den env = false) (h4 : e93.den env = false) (h5 : e88.den env = true) : False := by
  have m1 : env 1 % 18446744073709551616 = env 1 := by omega
  have m2 : env 2 % 18446744073709551616 = env 2 := by omega
  have m3 : (env 1).tmod (env 2) % 18446744073709551616 = (env 1).tmod (env 2) := by have := small a1 a2; omega
  simp only [e0, e1, e86, e87, e93, e88, IE.den, den_iff, BE.P, Bool.not_true, Bool.not_false, Int.ofNat_eq_natCast, den_and, den_tmod, s_i64, n32, n64, cut32, cut0, sgn32, sgn0, t32, t64, neg1, negA, negB, ↓mm] at h0 h1 h2 h3 h4 h5
  try simp only [mm, ee, den_add, den_sub, den_mul, den_tdiv, den_tmod, den_and, den_or, den_xor, and_low, and_31, and_63, and_lt, or_lt, xor_lt, shr_lt a1 b1, wrap_u32, wrap_u64, wrap_i32, wrap_i64, tdiv_neg1, tmod_neg1, m1, m2, m3] at h0 h1 h2 h3 h4 h5
  first | omega | (try simp only [not_true_eq_false] at *)
theorem o56 (a1 : 0 ≤ env 1) (b1 : env 1 ≤ 18446744073709551615) (a2 : 0 ≤ env 2) (b2 : env 2 ≤ 18446744073709551615) (h0 : e0.den env = true) (h1 : e1.den env = true) (h2 : e86.den env = false) (h3 : e87.den env = false) (h4 : e93.den env = false) (h5 : e88.den env = false) (h6 : e89.den env = true) (h7 : e90.den env = true) : False := by
  have m1 : env 1 % 18446744073709551616 = env 1 := by omega
  have m2 : env 2 % 18446744073709551616 = env 2 := by omega
  have m3 : (env 1).tmod (env 2) % 18446744073709551616 = (env 1).tmod (env 2) := by have := small a1 a2; omega
  simp only [e0, e1, e86, e87, e93, e88, e89, e90, IE.den, den_iff, BE.P, Bool.not_true, Bool.not_false, Int.ofNat_eq_natCast, den_and, den_tmod, s_i64, n32, n64, cut32, cut0, sgn32, sgn0, t32, t64, neg1, negA, negB, ↓mm] at h0 h1 h2 h3 h4 h5 h6 h7
  try simp only [mm, ee, den_add, den_sub, den_mul, den_tdiv, den_tmod, den_and, den_or, den_xor, and_low, and_31, and_63, and_lt, or_lt, xor_lt, shr_lt a1 b1, wrap_u32, wrap_u64, wrap_i32, wrap_i64, tdiv_neg1, tmod_neg1, m1, m2, m3] at h0 h1 h2 h3 h4 h5 h6 h7
  first | omega | (try simp only [not_true_eq_false] at *)
theorem o57 (a1 : 0 ≤ env 1) (b1 : env 1 ≤ 18446744073709551615) (a2 : 0 ≤ env 2) (b2 : env 2 ≤ 18446744073709551615) (h0 : e0.den env = true) (h1 : e1.den env = true) (h2 : e86.den env = false) (h3 : e87.den env = false) (h4 : e93.den env = false) (h5 : e88.den env = false) (h6 : e89.den env = false) (h7 : e91.den env = true) : False := by
  have m1 : env 1 % 18446744073709551616 = env 1 := by omega
  have m2 : env 2 % 18446744073709551616 = env 2 := by omega
  have m3 : (env 1).tmod (env 2) % 18446744073709551616 = (env 1).tmod (env 2) := by have := small a1 a2; omega
  simp only [e0, e1, e86, e87, e93, e88, e89, e91, IE.den, den_iff, BE.P, Bool.not_true, Bool.not_false, Int.ofNat_eq_natCast, den_and, den_tmod, s_i64, n32, n64, cut32, cut0, sgn32, sgn0, t32, t64, neg1, negA, negB, ↓mm] at h0 h1 h2 h3 h4 h5 h6 h7
  try simp only [mm, ee, den_add, den_sub, den_mul, den_tdiv, den_tmod, den_and, den_or, den_xor, and_low, and_31, and_63, and_lt, or_lt, xor_lt, shr_lt a1 b1, wrap_u32, wrap_u64, wrap_i32, wrap_i64, tdiv_neg1, tmod_neg1, m1, m2, m3] at h0 h1 h2 h3 h4 h5 h6 h7
  first | omega | (try simp only [not_true_eq_false] at *)
theorem o58 (a1 : 0 ≤ env 1) (b1 : env 1 ≤ 18446744073709551615) (a2 : 0 ≤ env 2) (b2 : env 2 ≤ 18446744073709551615) (h0 : e0.den env = true) (h1 : e1.den env = true) (h2 : e86.den env = true) (h3 : e87.den env = true) (h4 : e88.den env = false) : False := by
  have m1 : env 1 % 18446744073709551616 = env 1 := by omega
  have m2 : env 2 % 18446744073709551616 = env 2 := by omega
  have m3 : (env 1).tmod (env 2) % 18446744073709551616 = (env 1).tmod (env 2) := by have := small a1 a2; omega
  simp only [e0, e1, e86, e87, e88, IE.den, den_iff, BE.P, Bool.not_true, Bool.not_false, Int.ofNat_eq_natCast, den_and, den_tmod, s_i64, n32, n64, cut32, cut0, sgn32, sgn0, t32, t64, neg1, negA, negB, ↓mm] at h0 h1 h2 h3 h4
  try simp only [mm, ee, den_add, den_sub, den_mul, den_tdiv, den_tmod, den_and, den_or, den_xor, and_low, and_31, and_63, and_lt, or_lt, xor_lt, shr_lt a1 b1, wrap_u32, wrap_u64, wrap_i32, wrap_i64, tdiv_neg1, tmod_neg1, m1, m2, m3] at h0 h1 h2 h3 h4
  first | omega | (try simp only [not_true_eq_false] at *)
theorem o59 (a1 : 0 ≤ env 1) (b1 : env 1 ≤ 18446744073709551615) (a2 : 0 ≤ env 2) (b2 : env 2 ≤ 18446744073709551615) (h0 : e0.den env = true) (h1 : e1.den env = true) (h2 : e86.den env = true) (h3 : e87.den env = false) (h4 : e88.den env = true) : False := by
  have m1 : env 1 % 18446744073709551616 = env 1 := by omega
  have m2 : env 2 % 18446744073709551616 = env 2 := by omega
  have m3 : (env 1).tmod (env 2) % 18446744073709551616 = (env 1).tmod (env 2) := by have := small a1 a2; omega
  simp only [e0, e1, e86, e87, e88, IE.den, den_iff, BE.P, Bool.not_true, Bool.not_false, Int.ofNat_eq_natCast, den_and, den_tmod, s_i64, n32, n64, cut32, cut0, sgn32, sgn0, t32, t64, neg1, negA, negB, ↓mm] at h0 h1 h2 h3 h4
  try simp only [mm, ee, den_add, den_sub, den_mul, den_tdiv, den_tmod, den_and, den_or, den_xor, and_low, and_31, and_63, and_lt, or_lt, xor_lt, shr_lt a1 b1, wrap_u32, wrap_u64, wrap_i32, wrap_i64, tdiv_neg1, tmod_neg1, m1, m2, m3] at h0 h1 h2 h3 h4
  first | omega | (try simp only [not_true_eq_false] at *)
theorem o60 (a1 : 0 ≤ env 1) (b1 : env 1 ≤ 18446744073709551615) (a2 : 0 ≤ env 2) (b2 : env 2 ≤ 18446744073709551615) (h0 : e0.den env = true) (h1 : e1.den env = true) (h2 : e86.den env = false) (h3 : e87.den env = true) (h4 : e88.den env = false) : False := by
  have m1 : env 1 % 18446744073709551616 = env 1 := by omega
  have m2 : env 2 % 18446744073709551616 = env 2 := by omega
  have m3 : (env 1).tmod (env 2) % 18446744073709551616 = (env 1).tmod (env 2) := by have := small a1 a2; omega
  simp only [e0, e1, e86, e87, e88, IE.den, den_iff, BE.P, Bool.not_true, Bool.not_false, Int.ofNat_eq_natCast, den_and, den_tmod, s_i64, n32, n64, cut32, cut0, sgn32, sgn0, t32, t64, neg1, negA, negB, ↓mm] at h0 h1 h2 h3 h4
  try simp only [mm, ee, den_add, den_sub, den_mul, den_tdiv, den_tmod, den_and, den_or, den_xor, and_low, and_31, and_63, and_lt, or_lt, xor_lt, shr_lt a1 b1, wrap_u32, wrap_u64, wrap_i32, wrap_i64, tdiv_neg1, tmod_neg1, m1, m2, m3] at h0 h1 h2 h3 h4
  first | omega | (try simp only [not_true_eq_false] at *)
theorem o61 (a1 : 0 ≤ env 1) (b1 : env 1 ≤ 18446744073709551615) (a2 : 0 ≤ env 2) (b2 : env 2 ≤ 18446744073709551615) (h0 : e0.den env = true) (h1 : e1.den env = true) (h2 : e86.den env = false) (h3 : e87.den env = false) (h4 : e88.den env = true) : False := by
  have m1 : env 1 % 18446744073709551616 = env 1 := by omega
  have m2 : env 2 % 18446744073709551616 = env 2 := by omega
  have m3 : (env 1).tmod (env 2) % 18446744073709551616 = (env 1).tmod (env 2) := by have := small a1 a2; omega
  simp only [e0, e1, e86, e87, e88, IE.den, den_iff, BE.P, Bool.not_true, Bool.not_false, Int.ofNat_eq_natCast, den_and, den_tmod, s_i64, n32, n64, cut32, cut0, sgn32, sgn0, t32, t64, neg1, negA, negB, ↓mm] at h0 h1 h2 h3 h4
  try simp only [mm, ee, den_add, den_sub, den_mul, den_tdiv, den_tmod, den_and, den_or, den_xor, and_low, and_31, and_63, and_lt, or_lt, xor_lt, shr_lt a1 b1, wrap_u32, wrap_u64, wrap_i32, wrap_i64, tdiv_neg1, tmod_neg1, m1, m2, m3] at h0 h1 h2 h3 h4
  first | omega | (try simp only [not_true_eq_false] at *)
theorem o62 (a1 : 0 ≤ env 1) (b1 : env 1 ≤ 18446744073709551615) (a2 : 0 ≤ env 2) (b2 : env 2 ≤ 18446744073709551615) (h0 : e0.den env = true) (h1 : e1.den env = true) (h2 : e86.den env = true) (h3 : e87.den env = true) (h4 : e88.den env = false) (h5 : e89.den env = true) : False := by
  have m1 : env 1 % 18446744073709551616 = env 1 := by omega
  have m2 : env 2 % 18446744073709551616 = env 2 := by omega
  have m3 : (env 1).tmod (env 2) % 18446744073709551616 = (env 1).tmod (env 2) := by have := small a1 a2; omega
  simp only [e0, e1, e86, e87, e88, e89, IE.den, den_iff, BE.P, Bool.not_true, Bool.not_false, Int.ofNat_eq_natCast, den_and, den_tmod, s_i64, n32, n64, cut32, cut0, sgn32, sgn0, t32, t64, neg1, negA, negB, ↓mm] at h0 h1 h2 h3 h4 h5
  try simp only [mm, ee, den_add, den_sub, den_mul, den_tdiv, den_tmod, den_and, den_or, den_xor, and_low, and_31, and_63, and_lt, or_lt, xor_lt, shr_lt a1 b1, wrap_u32, wrap_u64, wrap_i32, wrap_i64, tdiv_neg1, tmod_neg1, m1, m2, m3] at h0 h1 h2 h3 h4 h5
  first | omega | (try simp only [not_true_eq_false] at *)
theorem o63 (a1 : 0 ≤ env 1) (b1 : env 1 ≤ 18446744073709551615) (a2 : 0 ≤ env 2) (b2 : env 2 ≤ 18446744073709551615) (h0 : e0.den env = true) (h1 : e1.den env = true) (h2 : e86.den env = true) (h3 : e87.den env = false) (h4 : e88.den env = false) (h5 : e89.den env = false) (h6 : e91.den env = true) : False := by
  have m1 : env 1 % 18446744073709551616 = env 1 := by omega
  have m2 : env 2 % 18446744073709551616 = env 2 := by omega
  have m3 : (env 1).tmod (env 2) % 18446744073709551616 = (env 1).tmod (env 2) := by have := small a1 a2; omega
  simp only [e0, e1, e86, e87, e88, e89, e91, IE.den, den_iff, BE.P, Bool.not_true, Bool.not_false, Int.ofNat_eq_natCast, den_and, den_tmod, s_i64, n32, n64, cut32, cut0, sgn32, sgn0, t32, t64, neg1, negA, negB, ↓mm] at h0 h1 h2 h3 h4 h5 h6
  try simp only [mm, ee, den_add, den_sub, den_mul, den_tdiv, den_tmod, den_and, den_or, den_xor, and_low, and_31, and_63, and_lt, or_lt, xor_lt, shr_lt a1 b1, wrap_u32, wrap_u64, wrap_i32, wrap_i64, tdiv_neg1, tmod_neg1, m1, m2, m3] at h0 h1 h2 h3 h4 h5 h6
  first | omega | (try simp only [not_true_eq_false] at *)
theorem o64 (a1 : 0 ≤ env 1) (b1 : env 1 ≤ 18446744073709551615) (a2 : 0 ≤ env 2) (b2 : env 2 ≤ 18446744073709551615) (h0 : e0.den env = true) (h1 : e1.den env = true) (h2 : e86.den env = false) (h3 : e87.den env = true) (h4 : e88.den env = false) (h5 : e89.den env = true) : False := by
  have m1 : env 1 % 18446744073709551616 = env 1 := by omega
  have m2 : env 2 % 18446744073709551616 = env 2 := by omega
  have m3 : (env 1).tmod (env 2) % 18446744073709551616 = (env 1).tmod (env 2) := by have := small a1 a2; omega
  simp only [e0, e1, e86, e87, e88, e89, IE.den, den_iff, BE.P, Bool.not_true, Bool.not_false, Int.ofNat_eq_natCast, den_and, den_tmod, s_i64, n32, n64, cut32, cut0, sgn32, sgn0, t32, t64, neg1, negA, negB, ↓mm] at h0 h1 h2 h3 h4 h5
  try simp only [mm, ee, den_add, den_sub, den_mul, den_tdiv, den_tmod, den_and, den_or, den_xor, and_low, and_31, and_63, and_lt, or_lt, xor_lt, shr_lt a1 b1, wrap_u32, wrap_u64, wrap_i32, wrap_i64, tdiv_neg1, tmod_neg1, m1, m2, m3] at h0 h1 h2 h3 h4 h5
  first | omega | (try simp only [not_true_eq_false] at *)
theorem o65 (a1 : 0 ≤ env 1) (b1 : env 1 ≤ 18446744073709551615) (a2 : 0 ≤ env 2) (b2 : env 2 ≤ 18446744073709551615) (h0 : e0.den env = true) (h1 : e1.den env = true) (h2 : e101.den env = true) (h3 : e102.den env = false) : False := by
  have m1 : env 1 % 18446744073709551616 = env 1 := by omega
  have m2 : env 2 % 18446744073709551616 = env 2 := by omega
  have m3 : (env 1).tmod (env 2) % 18446744073709551616 = (env 1).tmod (env 2) := by have := small a1 a2; omega
  simp only [e0, e1, e101, e102, IE.den, den_iff, BE.P, Bool.not_true, Bool.not_false, Int.ofNat_eq_natCast, den_and, den_tmod, s_i64, n32, n64, cut32, cut0, sgn32, sgn0, t32, t64, neg1, negA, negB, ↓mm] at h0 h1 h2 h3
  try simp only [mm, ee, den_add, den_sub, den_mul, den_tdiv, den_tmod, den_and, den_or, den_xor, and_low, and_31, and_63, and_lt, or_lt, xor_lt, shr_lt a1 b1, wrap_u32, wrap_u64, wrap_i32, wrap_i64, tdiv_neg1, tmod_neg1, m1, m2, m3] at h0 h1 h2 h3
  first | omega | (try simp only [not_true_eq_false] at *)
theorem o66 (a1 : 0 ≤ env 1) (b1 : env 1 ≤ 18446744073709551615) (a2 : 0 ≤ env 2) (b2 : env 2 ≤ 18446744073709551615) (h0 : e0.den env = true) (h1 : e1.den env = true) (h2 : e101.den env = false) : False := by
  have m1 : env 1 % 18446744073709551616 = env 1 := by omega
  have m2 : env 2 % 18446744073709551616 = env 2 := by omega
  have m3 : (env 1).tmod (env 2) % 18446744073709551616 = (env 1).tmod (env 2) := by have := small a1 a2; omega
  simp only [e0, e1, e101, IE.den, den_iff, BE.P, Bool.not_true, Bool.not_false, Int.ofNat_eq_natCast, den_and, den_tmod, s_i64, n32, n64, cut32, cut0, sgn32, sgn0, t32, t64, neg1, negA, negB, ↓mm] at h0 h1 h2
  try simp only [mm, ee, den_add, den_sub, den_mul, den_tdiv, den_tmod, den_and, den_or, den_xor, and_low, and_31, and_63, and_lt, or_lt, xor_lt, shr_lt a1 b1, wrap_u32, wrap_u64, wrap_i32, wrap_i64, tdiv_neg1, tmod_neg1, m1, m2, m3] at h0 h1 h2
  first | omega | (try simp only [not_true_eq_false] at *)
theorem o67 (a1 : 0 ≤ env 1) (b1 : env 1 ≤ 18446744073709551615) (a2 : 0 ≤ env 2) (b2 : env 2 ≤ 18446744073709551615) (h0 : e0.den env = true) (h1 : e1.den env = true) (h2 : e106.den env = true) (h3 : e107.den env = true) (h4 : e102.den env = true) (h5 : e108.den env = false) : False := by
  have m1 : env 1 % 18446744073709551616 = env 1 := by omega
  have m2 : env 2 % 18446744073709551616 = env 2 := by omega
  have m3 : (env 1).tmod (env 2) % 18446744073709551616 = (env 1).tmod (env 2) := by have := small a1 a2; omega
  simp only [e0, e1, e106, e107, e102, e108, IE.den, den_iff, BE.P, Bool.not_true, Bool.not_false, Int.ofNat_eq_natCast, den_and, den_tmod, s_i64, n32, n64, cut32, cut0, sgn32, sgn0, t32, t64, neg1, negA, negB, ↓mm] at h0 h1 h2 h3 h4 h5
  try simp only [mm, ee, den_add, den_sub, den_mul, den_tdiv, den_tmod, den_and, den_or, den_xor, and_low, and_31, and_63, and_lt, or_lt, xor_lt, shr_lt a1 b1, wrap_u32, wrap_u64, wrap_i32, wrap_i64, tdiv_neg1, tmod_neg1, m1, m2, m3] at h0 h1 h2 h3 h4 h5
  first | omega | (try simp only [not_true_eq_false] at *)
theorem o68 (a1 : 0 ≤ env 1) (b1 : env 1 ≤ 18446744073709551615) (a2 : 0 ≤ env 2) (b2 : env 2 ≤ 18446744073709551615) (h0 : e0.den env = true) (h1 : e1.den env = true) (h2 : e106.den env = true) (h3 : e107.den env = true) (h4 : e102.den env = false) : False := by
  have m1 : env 1 % 18446744073709551616 = env 1 := by omega
  have m2 : env 2 % 18446744073709551616 = env 2 := by omega
  have m3 : (env 1).tmod (env 2) % 18446744073709551616 = (env 1).tmod (env 2) := by have := small a1 a2; omega
  simp only [e0, e1, e106, e107, e102, IE.den, den_iff, BE.P, Bool.not_true, Bool.not_false, Int.ofNat_eq_natCast, den_and, den_tmod, s_i64, n32, n64, cut32, cut0, sgn32, sgn0, t32, t64, neg1, negA, negB, ↓mm] at h0 h1 h2 h3 h4
  try simp only [mm, ee, den_add, den_sub, den_mul, den_tdiv, den_tmod, den_and, den_or, den_xor, and_low, and_31, and_63, and_lt, or_lt, xor_lt, shr_lt a1 b1, wrap_u32, wrap_u64, wrap_i32, wrap_i64, tdiv_neg1, tmod_neg1, m1, m2, m3] at h0 h1 h2 h3 h4
  first | omega | (try simp only [not_true_eq_false] at *)
theorem o69 (a1 : 0 ≤ env 1) (b1 : env 1 ≤ 18446744073709551615) (a2 : 0 ≤ env 2) (b2 : env 2 ≤ 18446744073709551615) (h0 : e0.den env = true) (h1 : e1.den env = true) (h2 : e106.den env = true) (h3 : e107.den env = false) : False := by
  have m1 : env 1 % 18446744073709551616 = env 1 := by omega
  have m2 : env 2 % 18446744073709551616 = env 2 := by omega
  have m3 : (env 1).tmod (env 2) % 18446744073709551616 = (env 1).tmod (env 2) := by have := small a1 a2; omega
  simp only [e0, e1, e106, e107, IE.den, den_iff, BE.P, Bool.not_true, Bool.not_false, Int.ofNat_eq_natCast, den_and, den_tmod, s_i64, n32, n64, cut32, cut0, sgn32, sgn0, t32, t64, neg1, negA, negB, ↓mm] at h0 h1 h2 h3
  try simp only [mm, ee, den_add, den_sub, den_mul, den_tdiv, den_tmod, den_and, den_or, den_xor, and_low, and_31, and_63, and_lt, or_lt, xor_lt, shr_lt a1 b1, wrap_u32, wrap_u64, wrap_i32, wrap_i64, tdiv_neg1, tmod_neg1, m1, m2, m3] at h0 h1 h2 h3
  first | omega | (try simp only [not_true_eq_false] at *)
theorem o70 (a1 : 0 ≤ env 1) (b1 : env 1 ≤ 18446744073709551615) (a2 : 0 ≤ env 2) (b2 : env 2 ≤ 18446744073709551615) (h0 : e0.den env = true) (h1 : e1.den env = true) (h2 : e106.den env = false) : False := by
  have m1 : env 1 % 18446744073709551616 = env 1 := by omega
  have m2 : env 2 % 18446744073709551616 = env 2 := by omega
  have m3 : (env 1).tmod (env 2) % 18446744073709551616 = (env 1).tmod (env 2) := by have := small a1 a2; omega
  simp only [e0, e1, e106, IE.den, den_iff, BE.P, Bool.not_true, Bool.not_false, Int.ofNat_eq_natCast, den_and, den_tmod, s_i64, n32, n64, cut32, cut0, sgn32, sgn0, t32, t64, neg1, negA, negB, ↓mm] at h0 h1 h2
  try simp only [mm, ee, den_add, den_sub, den_mul, den_tdiv, den_tmod, den_and, den_or, den_xor, and_low, and_31, and_63, and_lt, or_lt, xor_lt, shr_lt a1 b1, wrap_u32, wrap_u64, wrap_i32, wrap_i64, tdiv_neg1, tmod_neg1, m1, m2, m3] at h0 h1 h2
  first | omega | (try simp only [not_true_eq_false] at *)
theorem o71 (a1 : 0 ≤ env 1) (b1 : env 1 ≤ 18446744073709551615) (a2 : 0 ≤ env 2) (b2 : env 2 ≤ 18446744073709551615) (h0 : e0.den env = true) (h1 : e1.den env = true) (h2 : e110.den env = true) (h3 : e111.den env = true) (h4 : e102.den env = true) (h5 : e108.den env = false) : False := by
  have m1 : env 1 % 18446744073709551616 = env 1 := by omega
  have m2 : env 2 % 18446744073709551616 = env 2 := by omega
  have m3 : (env 1).tmod (env 2) % 18446744073709551616 = (env 1).tmod (env 2) := by have := small a1 a2; omega
  simp only [e0, e1, e110, e111, e102, e108, IE.den, den_iff, BE.P, Bool.not_true, Bool.not_false, Int.ofNat_eq_natCast, den_and, den_tmod, s_i64, n32, n64, cut32, cut0, sgn32, sgn0, t32, t64, neg1, negA, negB, ↓mm] at h0 h1 h2 h3 h4 h5
  try simp only [mm, ee, den_add, den_sub, den_mul, den_tdiv, den_tmod, den_and, den_or, den_xor, and_low, and_31, and_63, and_lt, or_lt, xor_lt, shr_lt a1 b1, wrap_u32, wrap_u64, wrap_i32, wrap_i64, tdiv_neg1, tmod_neg1, m1, m2, m3] at h0 h1 h2 h3 h4 h5
  first | omega | (try simp only [not_true_eq_false] at *)
theorem o72 (a1 : 0 ≤ env 1) (b1 : env 1 ≤ 18446744073709551615) (a2 : 0 ≤ env 2) (b2 : env 2 ≤ 18446744073709551615) (h0 : e0.den env = true) (h1 : e1.den env = true) (h2 : e110.den env = true) (h3 : e111.den env = true) (h4 : e102.den env = false) : False := by
  have m1 : env 1 % 18446744073709551616 = env 1 := by omega
  have m2 : env 2 % 18446744073709551616 = env 2 := by omega
  have m3 : (env 1).tmod (env 2) % 18446744073709551616 = (env 1).tmod (env 2) := by have := small a1 a2; omega
  simp only [e0, e1, e110, e111, e102, IE.den, den_iff, BE.P, Bool.not_true, Bool.not_false, Int.ofNat_eq_natCast, den_and, den_tmod, s_i64, n32, n64, cut32, cut0, sgn32, sgn0, t32, t64, neg1, negA, negB, ↓mm] at h0 h1 h2 h3 h4
  try simp only [mm, ee, den_add, den_sub, den_mul, den_tdiv, den_tmod, den_and, den_or, den_xor, and_low, and_31, and_63, and_lt, or_lt, xor_lt, shr_lt a1 b1, wrap_u32, wrap_u64, wrap_i32, wrap_i64, tdiv_neg1, tmod_neg1, m1, m2, m3] at h0 h1 h2 h3 h4
  first | omega | (try simp only [not_true_eq_false] at *)
theorem o73 (a1 : 0 ≤ env 1) (b1 : env 1 ≤ 18446744073709551615) (a2 : 0 ≤ env 2) (b2 : env 2 ≤ 18446744073709551615) (h0 : e0.den env = true) (h1 : e1.den env = true) (h2 : e110.den env = true) (h3 : e111.den env = false) : False := by
  have m1 : env 1 % 18446744073709551616 = env 1 := by omega
  have m2 : env 2 % 18446744073709551616 = env 2 := by omega
  have m3 : (env 1).tmod (env 2) % 18446744073709551616 = (env 1).tmod (env 2) := by have := small a1 a2; omega
  simp only [e0, e1, e110, e111, IE.den, den_iff, BE.P, Bool.not_true, Bool.not_false, Int.ofNat_eq_natCast, den_and, den_tmod, s_i64, n32, n64, cut32, cut0, sgn32, sgn0, t32, t64, neg1, negA, negB, ↓mm] at h0 h1 h2 h3
  try simp only [mm, ee, den_add, den_sub, den_mul, den_tdiv, den_tmod, den_and, den_or, den_xor, and_low, and_31, and_63, and_lt, or_lt, xor_lt, shr_lt a1 b1, wrap_u32, wrap_u64, wrap_i32, wrap_i64, tdiv_neg1, tmod_neg1, m1, m2, m3] at h0 h1 h2 h3
  first | omega | (try simp only [not_true_eq_false] at *)
theorem o74 (a1 : 0 ≤ env 1) (b1 : env 1 ≤ 18446744073709551615) (a2 : 0 ≤ env 2) (b2 : env 2 ≤ 18446744073709551615) (h0 : e0.den env = true) (h1 : e1.den env = true) (h2 : e110.den env = false) : False := by
  have m1 : env 1 % 18446744073709551616 = env 1 := by omega
  have m2 : env 2 % 18446744073709551616 = env 2 := by omega
  have m3 : (env 1).tmod (env 2) % 18446744073709551616 = (env 1).tmod (env 2) := by have := small a1 a2; omega
  simp only [e0, e1, e110, IE.den, den_iff, BE.P, Bool.not_true, Bool.not_false, Int.ofNat_eq_natCast, den_and, den_tmod, s_i64, n32, n64, cut32, cut0, sgn32, sgn0, t32, t64, neg1, negA, negB, ↓mm] at h0 h1 h2
  try simp only [mm, ee, den_add, den_sub, den_mul, den_tdiv, den_tmod, den_and, den_or, den_xor, and_low, and_31, and_63, and_lt, or_lt, xor_lt, shr_lt a1 b1, wrap_u32, wrap_u64, wrap_i32, wrap_i64, tdiv_neg1, tmod_neg1, m1, m2, m3] at h0 h1 h2
  first | omega | (try simp only [not_true_eq_false] at *)
theorem o75 (a1 : 0 ≤ env 1) (b1 : env 1 ≤ 18446744073709551615) (a2 : 0 ≤ env 2) (b2 : env 2 ≤ 18446744073709551615) (h0 : e0.den env = true) (h1 : e1.den env = true) (h2 : e119.den env = true) (h3 : e120.den env = false) (h4 : e121.den env = true) (h5 : e122.den env = false) (h6 : e123.den env = true) (h7 : e124.den env = false) : False := by
  have m1 : env 1 % 18446744073709551616 = env 1 := by omega
  have m2 : env 2 % 18446744073709551616 = env 2 := by omega
  have m3 : (env 1).tmod (env 2) % 18446744073709551616 = (env 1).tmod (env 2) := by have := small a1 a2; omega
  simp only [e0, e1, e119, e120, e121, e122, e123, e124, IE.den, den_iff, BE.P, Bool.not_true, Bool.not_false, Int.ofNat_eq_natCast, den_and, den_tmod, s_i64, n32, n64, cut32, cut0, sgn32, sgn0, t32, t64, neg1, negA, negB, ↓mm] at h0 h1 h2 h3 h4 h5 h6 h7
  try simp only [mm, ee, den_add, den_sub, den_mul, den_tdiv, den_tmod, den_and, den_or, den_xor, and_low, and_31, and_63, and_lt, or_lt, xor_lt, shr_lt a1 b1, wrap_u32, wrap_u64, wrap_i32, wrap_i64, tdiv_neg1, tmod_neg1, m1, m2, m3] at h0 h1 h2 h3 h4 h5 h6 h7
  first | omega | (try simp only [not_true_eq_false] at *)
theorem o76 (a1 : 0 ≤ env 1) (b1 : env 1 ≤ 18446744073709551615) (a2 : 0 ≤ env 2) (b2 : env 2 ≤ 18446744073709551615) (h0 : e0.den env = true) (h1 : e1.den env = true) (h2 : e119.den env = true) (h3 : e120.den env = false) (h4 : e121.den env = true) (h5 : e122.den env = false) (h6 : e123.den env = false) (h7 : e125.den env = true) : False := by
  have m1 : env 1 % 18446744073709551616 = env 1 := by omega
  have m2 : env 2 % 18446744073709551616 = env 2 := by omega
  have m3 : (env 1).tmod (env 2) % 18446744073709551616 = (env 1).tmod (env 2) := by have := small a1 a2; omega
  simp only [e0, e1, e119, e120, e121, e122, e123, e125, IE.den, den_iff, BE.P, Bool.not_true, Bool.not_false, Int.ofNat_eq_natCast, den_and, den_tmod, s_i64, n32, n64, cut32, cut0, sgn32, sgn0, t32, t64, neg1, negA, negB, ↓mm] at h0 h1 h2 h3 h4 h5 h6 h7
  try simp only [mm, ee, den_add, den_sub, den_mul, den_tdiv, den_tmod, den_and, den_or, den_xor, and_low, and_31, and_63, and_lt, or_lt, xor_lt, shr_lt a1 b1, wrap_u32, wrap_u64, wrap_i32, wrap_i64, tdiv_neg1, tmod_neg1, m1, m2, m3] at h0 h1 h2 h3 h4 h5 h6 h7
  first | omega | (try simp only [not_true_eq_false] at *)
theorem o77 (a1 : 0 ≤ env 1) (b1 : env 1 ≤ 18446744073709551615) (a2 : 0 ≤ env 2) (b2 : env 2 ≤ 18446744073709551615) (h0 : e0.den env = true) (h1 : e1.den env = true) (h2 : e119.den env = true) (h3 : e120.den env = false) (h4 : e121.den env = true) (h5 : e122.den env = false) (h6 : e123.den env = false) (h7 : e125.den env = false) : False := by
  have m1 : env 1 % 18446744073709551616 = env 1 := by omega
  have m2 : env 2 % 18446744073709551616 = env 2 := by omega
  have m3 : (env 1).tmod (env 2) % 18446744073709551616 = (env 1).tmod (env 2) := by have := small a1 a2; omega
  simp only [e0, e1, e119, e120, e121, e122, e123, e125, IE.den, den_iff, BE.P, Bool.not_true, Bool.not_false, Int.ofNat_eq_natCast, den_and, den_tmod, s_i64, n32, n64, cut32, cut0, sgn32, sgn0, t32, t64, neg1, negA, negB, ↓mm] at h0 h1 h2 h3 h4 h5 h6 h7
  try simp only [mm, ee, den_add, den_sub, den_mul, den_tdiv, den_tmod, den_and, den_or, den_xor, and_low, and_31, and_63, and_lt, or_lt, xor_lt, shr_lt a1 b1, wrap_u32, wrap_u64, wrap_i32, wrap_i64, tdiv_neg1, tmod_neg1, m1, m2, m3] at h0 h1 h2 h3 h4 h5 h6 h7
  first | omega | (try simp only [not_true_eq_false] at *)
theorem o78 (a1 : 0 ≤ env 1) (b1 : env 1 ≤ 18446744073709551615) (a2 : 0 ≤ env 2) (b2 : env 2 ≤ 18446744073709551615) (h0 : e0.den env = true) (h1 : e1.den env = true) (h2 : e119.den env = true) (h3 : e120.den env = false) (h4 : e121.den env = false) (h5 : e122.den env = true) : False := by
  have m1 : env 1 % 18446744073709551616 = env 1 := by omega
  have m2 : env 2 % 18446744073709551616 = env 2 := by omega
  have m3 : (env 1).tmod (env 2) % 18446744073709551616 = (env 1).tmod (env 2) := by have := small a1 a2; omega
  simp only [e0, e1, e119, e120, e121, e122, IE.den, den_iff, BE.P, Bool.not_true, Bool.not_false, Int.ofNat_eq_natCast, den_and, den_tmod, s_i64, n32, n64, cut32, cut0, sgn32, sgn0, t32, t64, neg1, negA, negB, ↓mm] at h0 h1 h2 h3 h4 h5
  try simp only [mm, ee, den_add, den_sub, den_mul, den_tdiv, den_tmod, den_and, den_or, den_xor, and_low, and_31, and_63, and_lt, or_lt, xor_lt, shr_lt a1 b1, wrap_u32, wrap_u64, wrap_i32, wrap_i64, tdiv_neg1, tmod_neg1, m1, m2, m3] at h0 h1 h2 h3 h4 h5
  first | omega | (try simp only [not_true_eq_false] at *)
theorem o79 (a1 : 0 ≤ env 1) (b1 : env 1 ≤ 18446744073709551615) (a2 : 0 ≤ env 2) (b2 : env 2 ≤ 18446744073709551615) (h0 : e0.den env = true) (h1 : e1.den env = true) (h2 : e119.den env = true) (h3 : e120.den env = false) (h4 : e121.den env = false) (h5 : e122.den env = false) (h6 : e123.den env = true) (h7 : e124.den env = true) : False := by
  have m1 : env 1 % 18446744073709551616 = env 1 := by omega
  have m2 : env 2 % 18446744073709551616 = env 2 := by omega
  have m3 : (env 1).tmod (env 2) % 18446744073709551616 = (env 1).tmod (env 2) := by have := small a1 a2; omega
  simp only [e0, e1, e119, e120, e121, e122, e123, e124, IE.den, den_iff, BE.P, Bool.not_true, Bool.not_false, Int.ofNat_eq_natCast, den_and, den_tmod, s_i64, n32, n64, cut32, cut0, sgn32, sgn0, t32, t64, neg1, negA, negB, ↓mm] at h0 h1 h2 h3 h4 h5 h6 h7
  try simp only [mm, ee, den_add, den_sub, den_mul, den_tdiv, den_tmod, den_and, den_or, den_xor, and_low, and_31, and_63, and_lt, or_lt, xor_lt, shr_lt a1 b1, wrap_u32, wrap_u64, wrap_i32, wrap_i64, tdiv_neg1, tmod_neg1, m1, m2, m3] at h0 h1 h2 h3 h4 h5 h6 h7
  first | omega | (try simp only [not_true_eq_false] at *)
theorem o80 (a1 : 0 ≤ env 1) (b1 : env 1 ≤ 18446744073709551615) (a2 : 0 ≤ env 2) (b2 : env 2 ≤ 18446744073709551615) (h0 : e0.den env = true) (h1 : e1.den env = true) (h2 : e119.den env = true) (h3 : e120.den env = false) (h4 : e121.den env = false) (h5 : e122.den env = false) (h6 : e123.den env = false) (h7 : e125.den env = true) : False := by
  have m1 : env 1 % 18446744073709551616 = env 1 := by omega
  have m2 : env 2 % 18446744073709551616 = env 2 := by omega
  have m3 : (env 1).tmod (env 2) % 18446744073709551616 = (env 1).tmod (env 2) := by have := small a1 a2; omega
  simp only [e0, e1, e119, e120, e121, e122, e123, e125, IE.den, den_iff, BE.P, Bool.not_true, Bool.not_false, Int.ofNat_eq_natCast, den_and, den_tmod, s_i64, n32, n64, cut32, cut0, sgn32, sgn0, t32, t64, neg1, negA, negB, ↓mm] at h0 h1 h2 h3 h4 h5 h6 h7
  try simp only [mm, ee, den_add, den_sub, den_mul, den_tdiv, den_tmod, den_and, den_or, den_xor, and_low, and_31, and_63, and_lt, or_lt, xor_lt, shr_lt a1 b1, wrap_u32, wrap_u64, wrap_i32, wrap_i64, tdiv_neg1, tmod_neg1, m1, m2, m3] at h0 h1 h2 h3 h4 h5 h6 h7
  first | omega | (try simp only [not_true_eq_false] at *)
theorem o81 (a1 : 0 ≤ env 1) (b1 : env 1 ≤ 18446744073709551615) (a2 : 0 ≤ env 2) (b2 : env 2 ≤ 18446744073709551615) (h0 : e0.den env = true) (h1 : e1.den env = true) (h2 : e119.den env = false) (h3 : e120.den env = false) (h4 : e126.den env = true) : False := by
  have m1 : env 1 % 18446744073709551616 = env 1 := by omega
  have m2 : env 2 % 18446744073709551616 = env 2 := by omega
  have m3 : (env 1).tmod (env 2) % 18446744073709551616 = (env 1).tmod (env 2) := by have := small a1 a2; omega
  simp only [e0, e1, e119, e120, e126, IE.den, den_iff, BE.P, Bool.not_true, Bool.not_false, Int.ofNat_eq_natCast, den_and, den_tmod, s_i64, n32, n64, cut32, cut0, sgn32, sgn0, t32, t64, neg1, negA, negB, ↓mm] at h0 h1 h2 h3 h4
  try simp only [mm, ee, den_add, den_sub, den_mul, den_tdiv, den_tmod, den_and, den_or, den_xor, and_low, and_31, and_63, and_lt, or_lt, xor_lt, shr_lt a1 b1, wrap_u32, wrap_u64, wrap_i32, wrap_i64, tdiv_neg1, tmod_neg1, m1, m2, m3] at h0 h1 h2 h3 h4
  first | omega | (try simp only [not_true_eq_false] at *)
theorem o82 (a1 : 0 ≤ env 1) (b1 : env 1 ≤ 18446744073709551615) (a2 : 0 ≤ env 2) (b2 : env 2 ≤ 18446744073709551615) (h0 : e0.den env = true) (h1 : e1.den env = true) (h2 : e119.den env = false) (h3 : e120.den env = false) (h4 : e126.den env = false) (h5 : e122.den env = true) : False := by
  have m1 : env 1 % 18446744073709551616 = env 1 := by omega
  have m2 : env 2 % 18446744073709551616 = env 2 := by omega
  have m3 : (env 1).tmod (env 2) % 18446744073709551616 = (env 1).tmod (env 2) := by have := small a1 a2; omega
  simp only [e0, e1, e119, e120, e126, e122, IE.den, den_iff, BE.P, Bool.not_true, Bool.not_false, Int.ofNat_eq_natCast, den_and, den_tmod, s_i64, n32, n64, cut32, cut0, sgn32, sgn0, t32, t64, neg1, negA, negB, ↓mm] at h0 h1 h2 h3 h4 h5
  try simp only [mm, ee, den_add, den_sub, den_mul, den_tdiv, den_tmod, den_and, den_or, den_xor, and_low, and_31, and_63, and_lt, or_lt, xor_lt, shr_lt a1 b1, wrap_u32, wrap_u64, wrap_i32, wrap_i64, tdiv_neg1, tmod_neg1, m1, m2, m3] at h0 h1 h2 h3 h4 h5
  first | omega | (try simp only [not_true_eq_false] at *)
theorem o83 (a1 : 0 ≤ env 1) (b1 : env 1 ≤ 18446744073709551615) (a2 : 0 ≤ env 2) (b2 : env 2 ≤ 18446744073709551615) (h0 : e0.den env = true) (h1 : e1.den env = true) (h2 : e119.den env = false) (h3 : e120.den env = false) (h4 : e126.den env = false) (h5 : e122.den env = false) (h6 : e123.den env = true) (h7 : e124.den env = true) : False := by
  have m1 : env 1 % 18446744073709551616 = env 1 := by omega
  have m2 : env 2 % 18446744073709551616 = env 2 := by omega
  have m3 : (env 1).tmod (env 2) % 18446744073709551616 = (env 1).tmod (env 2) := by have := small a1 a2; omega
  simp only [e0, e1, e119, e120, e126, e122, e123, e124, IE.den, den_iff, BE.P, Bool.not_true, Bool.not_false, Int.ofNat_eq_natCast, den_and, den_tmod, s_i64, n32, n64, cut32, cut0, sgn32, sgn0, t32, t64, neg1, negA, negB, ↓mm] at h0 h1 h2 h3 h4 h5 h6 h7
  try simp only [mm, ee, den_add, den_sub, den_mul, den_tdiv, den_tmod, den_and, den_or, den_xor, and_low, and_31, and_63, and_lt, or_lt, xor_lt, shr_lt a1 b1, wrap_u32, wrap_u64, wrap_i32, wrap_i64, tdiv_neg1, tmod_neg1, m1, m2, m3] at h0 h1 h2 h3 h4 h5 h6 h7
  first | omega | (try simp only [not_true_eq_false] at *)
theorem o84 (a1 : 0 ≤ env 1) (b1 : env 1 ≤ 18446744073709551615) (a2 : 0 ≤ env 2) (b2 : env 2 ≤ 18446744073709551615) (h0 : e0.den env = true) (h1 : e1.den env = true) (h2 : e119.den env = false) (h3 : e120.den env = false) (h4 : e126.den env = false) (h5 : e122.den env = false) (h6 : e123.den env = false) (h7 : e125.den env = true) : False := by
  have m1 : env 1 % 18446744073709551616 = env 1 := by omega
  have m2 : env 2 % 18446744073709551616 = env 2 := by omega
  have m3 : (env 1).tmod (env 2) % 18446744073709551616 = (env 1).tmod (env 2) := by have := small a1 a2; omega
  simp only [e0, e1, e119, e120, e126, e122, e123, e125, IE.den, den_iff, BE.P, Bool.not_true, Bool.not_false, Int.ofNat_eq_natCast, den_and, den_tmod, s_i64, n32, n64, cut32, cut0, sgn32, sgn0, t32, t64, neg1, negA, negB, ↓mm] at h0 h1 h2 h3 h4 h5 h6 h7
  try simp only [mm, ee, den_add, den_sub, den_mul, den_tdiv, den_tmod, den_and, den_or, den_xor, and_low, and_31, and_63, and_lt, or_lt, xor_lt, shr_lt a1 b1, wrap_u32, wrap_u64, wrap_i32, wrap_i64, tdiv_neg1, tmod_neg1, m1, m2, m3] at h0 h1 h2 h3 h4 h5 h6 h7
  first | omega | (try simp only [not_true_eq_false] at *)
theorem o85 (a1 : 0 ≤ env 1) (b1 : env 1 ≤ 18446744073709551615) (a2 : 0 ≤ env 2) (b2 : env 2 ≤ 18446744073709551615) (h0 : e0.den env = true) (h1 : e1.den env = true) (h2 : e119.den env = true) (h3 : e120.den env = false) (h4 : e122.den env = true) : False := by
  have m1 : env 1 % 18446744073709551616 = env 1 := by omega
  have m2 : env 2 % 18446744073709551616 = env 2 := by omega
  have m3 : (env 1).tmod (env 2) % 18446744073709551616 = (env 1).tmod (env 2) := by have := small a1 a2; omega
  simp only [e0, e1, e119, e120, e122, IE.den, den_iff, BE.P, Bool.not_true, Bool.not_false, Int.ofNat_eq_natCast, den_and, den_tmod, s_i64, n32, n64, cut32, cut0, sgn32, sgn0, t32, t64, neg1, negA, negB, ↓mm] at h0 h1 h2 h3 h4
  try simp only [mm, ee, den_add, den_sub, den_mul, den_tdiv, den_tmod, den_and, den_or, den_xor, and_low, and_31, and_63, and_lt, or_lt, xor_lt, shr_lt a1 b1, wrap_u32, wrap_u64, wrap_i32, wrap_i64, tdiv_neg1, tmod_neg1, m1, m2, m3] at h0 h1 h2 h3 h4
  first | omega | (try simp only [not_true_eq_false] at *)
theorem o86 (a1 : 0 ≤ env 1) (b1 : env 1 ≤ 18446744073709551615) (a2 : 0 ≤ env 2) (b2 : env 2 ≤ 18446744073709551615) (h0 : e0.den env = true) (h1 : e1.den env = true) (h2 : e119.den env = false) (h3 : e120.den env = false) (h4 : e122.den env = true) : False := by
  have m1 : env 1 % 18446744073709551616 = env 1 := by omega
  have m2 : env 2 % 18446744073709551616 = env 2 := by omega
  have m3 : (env 1).tmod (env 2) % 18446744073709551616 = (env 1).tmod (env 2) := by have := small a1 a2; omega
  simp only [e0, e1, e119, e120, e122, IE.den, den_iff, BE.P, Bool.not_true, Bool.not_false, Int.ofNat_eq_natCast, den_and, den_tmod, s_i64, n32, n64, cut32, cut0, sgn32, sgn0, t32, t64, neg1, negA, negB, ↓mm] at h0 h1 h2 h3 h4
  try simp only [mm, ee, den_add, den_sub, den_mul, den_tdiv, den_tmod, den_and, den_or, den_xor, and_low, and_31, and_63, and_lt, or_lt, xor_lt, shr_lt a1 b1, wrap_u32, wrap_u64, wrap_i32, wrap_i64, tdiv_neg1, tmod_neg1, m1, m2, m3] at h0 h1 h2 h3 h4
  first | omega | (try simp only [not_true_eq_false] at *)
theorem o87 (a1 : 0 ≤ env 1) (b1 : env 1 ≤ 18446744073709551615) (a2 : 0 ≤ env 2) (b2 : env 2 ≤ 18446744073709551615) (h0 : e0.den env = true) (h1 : e1.den env = true) (h2 : e119.den env = true) (h3 : e120.den env = false) (h4 : e122.den env = false) (h5 : e123.den env = false) (h6 : e125.den env = true) : False := by
  have m1 : env 1 % 18446744073709551616 = env 1 := by omega
  have m2 : env 2 % 18446744073709551616 = env 2 := by omega
  have m3 : (env 1).tmod (env 2) % 18446744073709551616 = (env 1).tmod (env 2) := by have := small a1 a2; omega
  simp only [e0, e1, e119, e120, e122, e123, e125, IE.den, den_iff, BE.P, Bool.not_true, Bool.not_false, Int.ofNat_eq_natCast, den_and, den_tmod, s_i64, n32, n64, cut32, cut0, sgn32, sgn0, t32, t64, neg1, negA, negB, ↓mm] at h0 h1 h2 h3 h4 h5 h6
  try simp only [mm, ee, den_add, den_sub, den_mul, den_tdiv, den_tmod, den_and, den_or, den_xor, and_low, and_31, and_63, and_lt, or_lt, xor_lt, shr_lt a1 b1, wrap_u32, wrap_u64, wrap_i32, wrap_i64, tdiv_neg1, tmod_neg1, m1, m2, m3] at h0 h1 h2 h3 h4 h5 h6
  first | omega | (try simp only [not_true_eq_false] at *)
theorem o88 (a1 : 0 ≤ env 1) (b1 : env 1 ≤ 18446744073709551615) (a2 : 0 ≤ env 2) (b2 : env 2 ≤ 18446744073709551615) (h0 : e0.den env = true) (h1 : e1.den env = true) (h2 : e134.den env = true) (h3 : e135.den env = false) : False := by
  have m1 : env 1 % 18446744073709551616 = env 1 := by omega
  have m2 : env 2 % 18446744073709551616 = env 2 := by omega
  have m3 : (env 1).tmod (env 2) % 18446744073709551616 = (env 1).tmod (env 2) := by have := small a1 a2; omega
  simp only [e0, e1, e134, e135, IE.den, den_iff, BE.P, Bool.not_true, Bool.not_false, Int.ofNat_eq_natCast, den_and, den_tmod, s_i64, n32, n64, cut32, cut0, sgn32, sgn0, t32, t64, neg1, negA, negB, ↓mm] at h0 h1 h2 h3
  try simp only [mm, ee, den_add, den_sub, den_mul, den_tdiv, den_tmod, den_and, den_or, den_xor, and_low, and_31, and_63, and_lt, or_lt, xor_lt, shr_lt a1 b1, wrap_u32, wrap_u64, wrap_i32, wrap_i64, tdiv_neg1, tmod_neg1, m1, m2, m3] at h0 h1 h2 h3
  first | omega | (try simp only [not_true_eq_false] at *)
theorem o89 (a1 : 0 ≤ env 1) (b1 : env 1 ≤ 18446744073709551615) (a2 : 0 ≤ env 2) (b2 : env 2 ≤ 18446744073709551615) (h0 : e0.den env = true) (h1 : e1.den env = true) (h2 : e134.den env = false) : False := by
  have m1 : env 1 % 18446744073709551616 = env 1 := by omega
  have m2 : env 2 % 18446744073709551616 = env 2 := by omega
  have m3 : (env 1).tmod (env 2) % 18446744073709551616 = (env 1).tmod (env 2) := by have := small a1 a2; omega
  simp only [e0, e1, e134, IE.den, den_iff, BE.P, Bool.not_true, Bool.not_false, Int.ofNat_eq_natCast, den_and, den_tmod, s_i64, n32, n64, cut32, cut0, sgn32, sgn0, t32, t64, neg1, negA, negB, ↓mm] at h0 h1 h2
  try simp only [mm, ee, den_add, den_sub, den_mul, den_tdiv, den_tmod, den_and, den_or, den_xor, and_low, and_31, and_63, and_lt, or_lt, xor_lt, shr_lt a1 b1, wrap_u32, wrap_u64, wrap_i32, wrap_i64, tdiv_neg1, tmod_neg1, m1, m2, m3] at h0 h1 h2
  first | omega | (try simp only [not_true_eq_false] at *)
theorem o90 (a1 : 0 ≤ env 1) (b1 : env 1 ≤ 18446744073709551615) (a2 : 0 ≤ env 2) (b2 : env 2 ≤ 18446744073709551615) (h0 : e0.den env = true) (h1 : e1.den env = true) (h2 : e139.den env = true) (h3 : e140.den env = true) (h4 : e135.den env = true) (h5 : e141.den env = false) : False := by
  have m1 : env 1 % 18446744073709551616 = env 1 := by omega
  have m2 : env 2 % 18446744073709551616 = env 2 := by omega
  have m3 : (env 1).tmod (env 2) % 18446744073709551616 = (env 1).tmod (env 2) := by have := small a1 a2; omega
  simp only [e0, e1, e139, e140, e135, e141, IE.den, den_iff, BE.P, Bool.not_true, Bool.not_false, Int.ofNat_eq_natCast, den_and, den_tmod, s_i64, n32, n64, cut32, cut0, sgn32, sgn0, t32, t64, neg1, negA, negB, ↓mm] at h0 h1 h2 h3 h4 h5
  try simp only [mm, ee, den_add, den_sub, den_mul, den_tdiv, den_tmod, den_and, den_or, den_xor, and_low, and_31, and_63, and_lt, or_lt, xor_lt, shr_lt a1 b1, wrap_u32, wrap_u64, wrap_i32, wrap_i64, tdiv_neg1, tmod_neg1, m1, m2, m3] at h0 h1 h2 h3 h4 h5
  first | omega | (try simp only [not_true_eq_false] at *)
theorem o91 (a1 : 0 ≤ env 1) (b1 : env 1 ≤ 18446744073709551615) (a2 : 0 ≤ env 2) (b2 : env 2 ≤ 18446744073709551615) (h0 : e0.den env = true) (h1 : e1.den env = true) (h2 : e139.den env = true) (h3 : e140.den env = true) (h4 : e135.den env = false) : False := by
  have m1 : env 1 % 18446744073709551616 = env 1 := by omega
  have m2 : env 2 % 18446744073709551616 = env 2 := by omega
  have m3 : (env 1).tmod (env 2) % 18446744073709551616 = (env 1).tmod (env 2) := by have := small a1 a2; omega
  simp only [e0, e1, e139, e140, e135, IE.den, den_iff, BE.P, Bool.not_true, Bool.not_false, Int.ofNat_eq_natCast, den_and, den_tmod, s_i64, n32, n64, cut32, cut0, sgn32, sgn0, t32, t64, neg1, negA, negB, ↓mm] at h0 h1 h2 h3 h4
  try simp only [mm, ee, den_add, den_sub, den_mul, den_tdiv, den_tmod, den_and, den_or, den_xor, and_low, and_31, and_63, and_lt, or_lt, xor_lt, shr_lt a1 b1, wrap_u32, wrap_u64, wrap_i32, wrap_i64, tdiv_neg1, tmod_neg1, m1, m2, m3] at h0 h1 h2 h3 h4
  first | omega | (try simp only [not_true_eq_false] at *)
theorem o92 (a1 : 0 ≤ env 1) (b1 : env 1 ≤ 18446744073709551615) (a2 : 0 ≤ env 2) (b2 : env 2 ≤ 18446744073709551615) (h0 : e0.den env = true) (h1 : e1.den env = true) (h2 : e139.den env = true) (h3 : e140.den env = false) : False := by
  have m1 : env 1 % 18446744073709551616 = env 1 := by omega
  have m2 : env 2 % 18446744073709551616 = env 2 := by omega
  have m3 : (env 1).tmod (env 2) % 18446744073709551616 = (env 1).tmod (env 2) := by have := small a1 a2; omega
  simp only [e0, e1, e139, e140, IE.den, den_iff, BE.P, Bool.not_true, Bool.not_false, Int.ofNat_eq_natCast, den_and, den_tmod, s_i64, n32, n64, cut32, cut0, sgn32, sgn0, t32, t64, neg1, negA, negB, ↓mm] at h0 h1 h2 h3
  try simp only [mm, ee, den_add, den_sub, den_mul, den_tdiv, den_tmod, den_and, den_or, den_xor, and_low, and_31, and_63, and_lt, or_lt, xor_lt, shr_lt a1 b1, wrap_u32, wrap_u64, wrap_i32, wrap_i64, tdiv_neg1, tmod_neg1, m1, m2, m3] at h0 h1 h2 h3
  first | omega | (try simp only [not_true_eq_false] at *)
theorem o93 (a1 : 0 ≤ env 1) (b1 : env 1 ≤ 18446744073709551615) (a2 : 0 ≤ env 2) (b2 : env 2 ≤ 18446744073709551615) (h0 : e0.den env = true) (h1 : e1.den env = true) (h2 : e139.den env = false) : False := by
  have m1 : env 1 % 18446744073709551616 = env 1 := by omega
  have m2 : env 2 % 18446744073709551616 = env 2 := by omega
  have m3 : (env 1).tmod (env 2) % 18446744073709551616 = (env 1).tmod (env 2) := by have := small a1 a2; omega
  simp only [e0, e1, e139, IE.den, den_iff, BE.P, Bool.not_true, Bool.not_false, Int.ofNat_eq_natCast, den_and, den_tmod, s_i64, n32, n64, cut32, cut0, sgn32, sgn0, t32, t64, neg1, negA, negB, ↓mm] at h0 h1 h2
  try simp only [mm, ee, den_add, den_sub, den_mul, den_tdiv, den_tmod, den_and, den_or, den_xor, and_low, and_31, and_63, and_lt, or_lt, xor_lt, shr_lt a1 b1, wrap_u32, wrap_u64, wrap_i32, wrap_i64, tdiv_neg1, tmod_neg1, m1, m2, m3] at h0 h1 h2
  first | omega | (try simp only [not_true_eq_false] at *)
theorem o94 (a1 : 0 ≤ env 1) (b1 : env 1 ≤ 18446744073709551615) (a2 : 0 ≤ env 2) (b2 : env 2 ≤ 18446744073709551615) (h0 : e0.den env = true) (h1 : e1.den env = true) (h2 : e143.den env = true) (h3 : e144.den env = true) (h4 : e135.den env = true) (h5 : e141.den env = false) : False := by
  have m1 : env 1 % 18446744073709551616 = env 1 := by omega
  have m2 : env 2 % 18446744073709551616 = env 2 := by omega
  have m3 : (env 1).tmod (env 2) % 18446744073709551616 = (env 1).tmod (env 2) := by have := small a1 a2; omega
  simp only [e0, e1, e143, e144, e135, e141, IE.den, den_iff, BE.P, Bool.not_true, Bool.not_false, Int.ofNat_eq_natCast, den_and, den_tmod, s_i64, n32, n64, cut32, cut0, sgn32, sgn0, t32, t64, neg1, negA, negB, ↓mm] at h0 h1 h2 h3 h4 h5
  try simp only [mm, ee, den_add, den_sub, den_mul, den_tdiv, den_tmod, den_and, den_or, den_xor, and_low, and_31, and_63, and_lt, or_lt, xor_lt, shr_lt a1 b1, wrap_u32, wrap_u64, wrap_i32, wrap_i64, tdiv_neg1, tmod_neg1, m1, m2, m3] at h0 h1 h2 h3 h4 h5
  first | omega | (try simp only [not_true_eq_false] at *)
theorem o95 (a1 : 0 ≤ env 1) (b1 : env 1 ≤ 18446744073709551615) (a2 : 0 ≤ env 2) (b2 : env 2 ≤ 18446744073709551615) (h0 : e0.den env = true) (h1 : e1.den env = true) (h2 : e143.den env = true) (h3 : e144.den env = true) (h4 : e135.den env = false) : False := by
  have m1 : env 1 % 18446744073709551616 = env 1 := by omega
  have m2 : env 2 % 18446744073709551616 = env 2 := by omega
  have m3 : (env 1).tmod (env 2) % 18446744073709551616 = (env 1).tmod (env 2) := by have := small a1 a2; omega
  simp only [e0, e1, e143, e144, e135, IE.den, den_iff, BE.P, Bool.not_true, Bool.not_false, Int.ofNat_eq_natCast, den_and, den_tmod, s_i64, n32, n64, cut32, cut0, sgn32, sgn0, t32, t64, neg1, negA, negB, ↓mm] at h0 h1 h2 h3 h4
  try simp only [mm, ee, den_add, den_sub, den_mul, den_tdiv, den_tmod, den_and, den_or, den_xor, and_low, and_31, and_63, and_lt, or_lt, xor_lt, shr_lt a1 b1, wrap_u32, wrap_u64, wrap_i32, wrap_i64, tdiv_neg1, tmod_neg1, m1, m2, m3] at h0 h1 h2 h3 h4
  first | omega | (try simp only [not_true_eq_false] at *)
theorem o96 (a1 : 0 ≤ env 1) (b1 : env 1 ≤ 18446744073709551615) (a2 : 0 ≤ env 2) (b2 : env 2 ≤ 18446744073709551615) (h0 : e0.den env = true) (h1 : e1.den env = true) (h2 : e143.den env = true) (h3 : e144.den env = false) : False := by
  have m1 : env 1 % 18446744073709551616 = env 1 := by omega
  have m2 : env 2 % 18446744073709551616 = env 2 := by omega
  have m3 : (env 1).tmod (env 2) % 18446744073709551616 = (env 1).tmod (env 2) := by have := small a1 a2; omega
  simp only [e0, e1, e143, e144, IE.den, den_iff, BE.P, Bool.not_true, Bool.not_false, Int.ofNat_eq_natCast, den_and, den_tmod, s_i64, n32, n64, cut32, cut0, sgn32, sgn0, t32, t64, neg1, negA, negB, ↓mm] at h0 h1 h2 h3
  try simp only [mm, ee, den_add, den_sub, den_mul, den_tdiv, den_tmod, den_and, den_or, den_xor, and_low, and_31, and_63, and_lt, or_lt, xor_lt, shr_lt a1 b1, wrap_u32, wrap_u64, wrap_i32, wrap_i64, tdiv_neg1, tmod_neg1, m1, m2, m3] at h0 h1 h2 h3
  first | omega | (try simp only [not_true_eq_false] at *)
theorem o97 (a1 : 0 ≤ env 1) (b1 : env 1 ≤ 18446744073709551615) (a2 : 0 ≤ env 2) (b2 : env 2 ≤ 18446744073709551615) (h0 : e0.den env = true) (h1 : e1.den env = true) (h2 : e143.den env = false) : False := by
  have m1 : env 1 % 18446744073709551616 = env 1 := by omega
  have m2 : env 2 % 18446744073709551616 = env 2 := by omega
  have m3 : (env 1).tmod (env 2) % 18446744073709551616 = (env 1).tmod (env 2) := by have := small a1 a2; omega
  simp only [e0, e1, e143, IE.den, den_iff, BE.P, Bool.not_true, Bool.not_false, Int.ofNat_eq_natCast, den_and, den_tmod, s_i64, n32, n64, cut32, cut0, sgn32, sgn0, t32, t64, neg1, negA, negB, ↓mm] at h0 h1 h2
  try simp only [mm, ee, den_add, den_sub, den_mul, den_tdiv, den_tmod, den_and, den_or, den_xor, and_low, and_31, and_63, and_lt, or_lt, xor_lt, shr_lt a1 b1, wrap_u32, wrap_u64, wrap_i32, wrap_i64, tdiv_neg1, tmod_neg1, m1, m2, m3] at h0 h1 h2
  first | omega | (try simp only [not_true_eq_false] at *)
theorem o98 (a1 : 0 ≤ env 1) (b1 : env 1 ≤ 18446744073709551615) (a2 : 0 ≤ env 2) (b2 : env 2 ≤ 18446744073709551615) (h0 : e0.den env = true) (h1 : e1.den env = false) : False := by
  have m1 : env 1 % 18446744073709551616 = env 1 := by omega
  have m2 : env 2 % 18446744073709551616 = env 2 := by omega
  have m3 : (env 1).tmod (env 2) % 18446744073709551616 = (env 1).tmod (env 2) := by have := small a1 a2; omega
  simp only [e0, e1, IE.den, den_iff, BE.P, Bool.not_true, Bool.not_false, Int.ofNat_eq_natCast, den_and, den_tmod, s_i64, n32, n64, cut32, cut0, sgn32, sgn0, t32, t64, neg1, negA, negB, ↓mm] at h0 h1
  try simp only [mm, ee, den_add, den_sub, den_mul, den_tdiv, den_tmod, den_and, den_or, den_xor, and_low, and_31, and_63, and_lt, or_lt, xor_lt, shr_lt a1 b1, wrap_u32, wrap_u64, wrap_i32, wrap_i64, tdiv_neg1, tmod_neg1, m1, m2, m3] at h0 h1
  first | omega | (try simp only [not_true_eq_false] at *)
theorem o99 (a1 : 0 ≤ env 1) (b1 : env 1 ≤ 18446744073709551615) (a2 : 0 ≤ env 2) (b2 : env 2 ≤ 18446744073709551615) (h0 : e0.den env = false) : False := by
  have m1 : env 1 % 18446744073709551616 = env 1 := by omega
  have m2 : env 2 % 18446744073709551616 = env 2 := by omega
  have m3 : (env 1).tmod (env 2) % 18446744073709551616 = (env 1).tmod (env 2) := by have := small a1 a2; omega
  simp only [e0, IE.den, den_iff, BE.P, Bool.not_true, Bool.not_false, Int.ofNat_eq_natCast, den_and, den_tmod, s_i64, n32, n64, cut32, cut0, sgn32, sgn0, t32, t64, neg1, negA, negB, ↓mm] at h0
  try simp only [mm, ee, den_add, den_sub, den_mul, den_tdiv, den_tmod, den_and, den_or, den_xor, and_low, and_31, and_63, and_lt, or_lt, xor_lt, shr_lt a1 b1, wrap_u32, wrap_u64, wrap_i32, wrap_i64, tdiv_neg1, tmod_neg1, m1, m2, m3] at h0
  first | omega | (try simp only [not_true_eq_false] at *)
theorem lf0 (a1 : 0 ≤ env 1) (b1 : env 1 ≤ 18446744073709551615) (a2 : 0 ≤ env 2) (b2 : env 2 ≤ 18446744073709551615) (h0 : e0.den env = true) (h1 : e1.den env = true) : BE.den env (.eq (.wrap .u64 (.bin .lz .u32 (.wrap .u32 (.bin .and .u64 (.v 1) (.c (.ofNat 4294967295)))) (.c (.ofNat 0)))) (.wrap .u64 (.bin .lz .u32 (.wrap .u32 (.v 1)) (.c (.ofNat 0))))) = false → False := by
  intro hL
  have m1 : env 1 % 18446744073709551616 = env 1 := by omega
  have m2 : env 2 % 18446744073709551616 = env 2 := by omega
  have m3 : (env 1).tmod (env 2) % 18446744073709551616 = (env 1).tmod (env 2) := by have := small a1 a2; omega
  simp only [e0, e1, IE.den, den_iff, BE.P, Bool.not_true, Bool.not_false, Int.ofNat_eq_natCast, den_and, den_tmod, s_i64, n32, n64, cut32, cut0, sgn32, sgn0, t32, t64, neg1, negA, negB, ↓mm] at h0 h1 hL
  try simp only [mm, ee, den_add, den_sub, den_mul, den_tdiv, den_tmod, den_and, den_or, den_xor, and_low, and_31, and_63, and_lt, or_lt, xor_lt, shr_lt a1 b1, wrap_u32, wrap_u64, wrap_i32, wrap_i64, tdiv_neg1, tmod_neg1, m1, m2, m3] at h0 h1 hL
  first | omega | exact absurd rfl hL | (simp at hL)
theorem lf1 (a1 : 0 ≤ env 1) (b1 : env 1 ≤ 18446744073709551615) (a2 : 0 ≤ env 2) (b2 : env 2 ≤ 18446744073709551615) (h0 : e0.den env = true) (h1 : e1.den env = true) : BE.den env (.eq (.wrap .u64 (.bin .tz .u32 (.wrap .u32 (.bin .and .u64 (.v 1) (.c (.ofNat 4294967295)))) (.c (.ofNat 0)))) (.wrap .u64 (.bin .tz .u32 (.wrap .u32 (.v 1)) (.c (.ofNat 0))))) = false → False := by
  intro hL
  have m1 : env 1 % 18446744073709551616 = env 1 := by omega
  have m2 : env 2 % 18446744073709551616 = env 2 := by omega
  have m3 : (env 1).tmod (env 2) % 18446744073709551616 = (env 1).tmod (env 2) := by have := small a1 a2; omega
  simp only [e0, e1, IE.den, den_iff, BE.P, Bool.not_true, Bool.not_false, Int.ofNat_eq_natCast, den_and, den_tmod, s_i64, n32, n64, cut32, cut0, sgn32, sgn0, t32, t64, neg1, negA, negB, ↓mm] at h0 h1 hL
  try simp only [mm, ee, den_add, den_sub, den_mul, den_tdiv, den_tmod, den_and, den_or, den_xor, and_low, and_31, and_63, and_lt, or_lt, xor_lt, shr_lt a1 b1, wrap_u32, wrap_u64, wrap_i32, wrap_i64, tdiv_neg1, tmod_neg1, m1, m2, m3] at h0 h1 hL
  first | omega | exact absurd rfl hL | (simp at hL)
theorem lf2 (a1 : 0 ≤ env 1) (b1 : env 1 ≤ 18446744073709551615) (a2 : 0 ≤ env 2) (b2 : env 2 ≤ 18446744073709551615) (h0 : e0.den env = true) (h1 : e1.den env = true) : BE.den env (.eq (.wrap .u64 (.bin .pop .u32 (.wrap .u32 (.bin .and .u64 (.v 1) (.c (.ofNat 4294967295)))) (.c (.ofNat 0)))) (.wrap .u64 (.bin .pop .u32 (.wrap .u32 (.v 1)) (.c (.ofNat 0))))) = false → False := by
  intro hL
  have m1 : env 1 % 18446744073709551616 = env 1 := by omega
  have m2 : env 2 % 18446744073709551616 = env 2 := by omega
  have m3 : (env 1).tmod (env 2) % 18446744073709551616 = (env 1).tmod (env 2) := by have := small a1 a2; omega
  simp only [e0, e1, IE.den, den_iff, BE.P, Bool.not_true, Bool.not_false, Int.ofNat_eq_natCast, den_and, den_tmod, s_i64, n32, n64, cut32, cut0, sgn32, sgn0, t32, t64, neg1, negA, negB, ↓mm] at h0 h1 hL
  try simp only [mm, ee, den_add, den_sub, den_mul, den_tdiv, den_tmod, den_and, den_or, den_xor, and_low, and_31, and_63, and_lt, or_lt, xor_lt, shr_lt a1 b1, wrap_u32, wrap_u64, wrap_i32, wrap_i64, tdiv_neg1, tmod_neg1, m1, m2, m3] at h0 h1 hL
  first | omega | exact absurd rfl hL | (simp at hL)
theorem lf3 (a1 : 0 ≤ env 1) (b1 : env 1 ≤ 18446744073709551615) (a2 : 0 ≤ env 2) (b2 : env 2 ≤ 18446744073709551615) (h0 : e0.den env = true) (h1 : e1.den env = true) : BE.den env (.eq (.bin .and .u64 (.wrap .u64 (.bin .add .u64 (.bin .and .u64 (.bin .and .u64 (.v 1) (.c (.ofNat 4294967295))) (.c (.ofNat 4294967295))) (.bin .and .u64 (.bin .and .u64 (.v 2) (.c (.ofNat 4294967295))) (.c (.ofNat 4294967295))))) (.c (.ofNat 4294967295))) (.bin .shr .u64 (.wrap .u64 (.bin .shl .u64 (.wrap .u64 (.bin .add .u64 (.bin .shr .u64 (.wrap .u64 (.bin .shl .u64 (.v 1) (.c (.ofNat 32)))) (.c (.ofNat 32))) (.bin .shr .u64 (.wrap .u64 (.bin .shl .u64 (.v 2) (.c (.ofNat 32)))) (.c (.ofNat 32))))) (.c (.ofNat 32)))) (.c (.ofNat 32)))) = false → False := by
  intro hL
  have m1 : env 1 % 18446744073709551616 = env 1 := by omega
  have m2 : env 2 % 18446744073709551616 = env 2 := by omega
  have m3 : (env 1).tmod (env 2) % 18446744073709551616 = (env 1).tmod (env 2) := by have := small a1 a2; omega
  simp only [e0, e1, IE.den, den_iff, BE.P, Bool.not_true, Bool.not_false, Int.ofNat_eq_natCast, den_and, den_tmod, s_i64, n32, n64, cut32, cut0, sgn32, sgn0, t32, t64, neg1, negA, negB, ↓mm] at h0 h1 hL
  try simp only [mm, ee, den_add, den_sub, den_mul, den_tdiv, den_tmod, den_and, den_or, den_xor, and_low, and_31, and_63, and_lt, or_lt, xor_lt, shr_lt a1 b1, wrap_u32, wrap_u64, wrap_i32, wrap_i64, tdiv_neg1, tmod_neg1, m1, m2, m3] at h0 h1 hL
  first | omega | exact absurd rfl hL | (simp at hL)
theorem lf4 (a1 : 0 ≤ env 1) (b1 : env 1 ≤ 18446744073709551615) (a2 : 0 ≤ env 2) (b2 : env 2 ≤ 18446744073709551615) (h0 : e0.den env = true) (h1 : e1.den env = true) : BE.den env (.eq (.bin .and .u64 (.wrap .u64 (.bin .sub .u64 (.bin .and .u64 (.bin .and .u64 (.v 1) (.c (.ofNat 4294967295))) (.c (.ofNat 4294967295))) (.bin .and .u64 (.bin .and .u64 (.v 2) (.c (.ofNat 4294967295))) (.c (.ofNat 4294967295))))) (.c (.ofNat 4294967295))) (.bin .shr .u64 (.wrap .u64 (.bin .shl .u64 (.wrap .u64 (.bin .sub .u64 (.bin .shr .u64 (.wrap .u64 (.bin .shl .u64 (.v 1) (.c (.ofNat 32)))) (.c (.ofNat 32))) (.bin .shr .u64 (.wrap .u64 (.bin .shl .u64 (.v 2) (.c (.ofNat 32)))) (.c (.ofNat 32))))) (.c (.ofNat 32)))) (.c (.ofNat 32)))) = false → False := by
  intro hL
  have m1 : env 1 % 18446744073709551616 = env 1 := by omega
  have m2 : env 2 % 18446744073709551616 = env 2 := by omega
  have m3 : (env 1).tmod (env 2) % 18446744073709551616 = (env 1).tmod (env 2) := by have := small a1 a2; omega
  simp only [e0, e1, IE.den, den_iff, BE.P, Bool.not_true, Bool.not_false, Int.ofNat_eq_natCast, den_and, den_tmod, s_i64, n32, n64, cut32, cut0, sgn32, sgn0, t32, t64, neg1, negA, negB, ↓mm] at h0 h1 hL
  try simp only [mm, ee, den_add, den_sub, den_mul, den_tdiv, den_tmod, den_and, den_or, den_xor, and_low, and_31, and_63, and_lt, or_lt, xor_lt, shr_lt a1 b1, wrap_u32, wrap_u64, wrap_i32, wrap_i64, tdiv_neg1, tmod_neg1, m1, m2, m3] at h0 h1 hL
  first | omega | exact absurd rfl hL | (simp at hL)
theorem lf5 (a1 : 0 ≤ env 1) (b1 : env 1 ≤ 18446744073709551615) (a2 : 0 ≤ env 2) (b2 : env 2 ≤ 18446744073709551615) (h0 : e0.den env = true) (h1 : e1.den env = true) : BE.den env (.eq (.bin .and .u64 (.wrap .u64 (.bin .mul .u64 (.bin .and .u64 (.bin .and .u64 (.v 1) (.c (.ofNat 4294967295))) (.c (.ofNat 4294967295))) (.bin .and .u64 (.bin .and .u64 (.v 2) (.c (.ofNat 4294967295))) (.c (.ofNat 4294967295))))) (.c (.ofNat 4294967295))) (.bin .shr .u64 (.wrap .u64 (.bin .shl .u64 (.wrap .u64 (.bin .mul .u64 (.bin .shr .u64 (.wrap .u64 (.bin .shl .u64 (.v 1) (.c (.ofNat 32)))) (.c (.ofNat 32))) (.bin .shr .u64 (.wrap .u64 (.bin .shl .u64 (.v 2) (.c (.ofNat 32)))) (.c (.ofNat 32))))) (.c (.ofNat 32)))) (.c (.ofNat 32)))) = false → False := by
  intro hL
  have m1 : env 1 % 18446744073709551616 = env 1 := by omega
  have m2 : env 2 % 18446744073709551616 = env 2 := by omega
  have m3 : (env 1).tmod (env 2) % 18446744073709551616 = (env 1).tmod (env 2) := by have := small a1 a2; omega
  simp only [e0, e1, IE.den, den_iff, BE.P, Bool.not_true, Bool.not_false, Int.ofNat_eq_natCast, den_and, den_tmod, s_i64, n32, n64, cut32, cut0, sgn32, sgn0, t32, t64, neg1, negA, negB, ↓mm] at h0 h1 hL
  try simp only [mm, ee, den_add, den_sub, den_mul, den_tdiv, den_tmod, den_and, den_or, den_xor, and_low, and_31, and_63, and_lt, or_lt, xor_lt, shr_lt a1 b1, wrap_u32, wrap_u64, wrap_i32, wrap_i64, tdiv_neg1, tmod_neg1, m1, m2, m3] at h0 h1 hL
  first | omega | exact absurd rfl hL | (simp at hL)
theorem lf6 (a1 : 0 ≤ env 1) (b1 : env 1 ≤ 18446744073709551615) (a2 : 0 ≤ env 2) (b2 : env 2 ≤ 18446744073709551615) (h0 : e0.den env = true) (h1 : e1.den env = true) (h2 : e86.den env = true) (h3 : e87.den env = false) (h4 : e92.den env = false) (h5 : e88.den env = false) (h6 : e89.den env = true) (h7 : e90.den env = false) : BE.den env (.eq (.bin .and .u64 (.wrap .u64 (.wrap .i64 (.bin .tdiv .i64 (.wrap .i64 (.wrap .i32 (.bin .and .u64 (.bin .and .u64 (.v 1) (.c (.ofNat 4294967295))) (.c (.ofNat 4294967295))))) (.c (.negSucc 0))))) (.c (.ofNat 4294967295))) (.bin .shr .u64 (.wrap .u64 (.bin .shl .u64 (.wrap .u64 (.wrap .i64 (.bin .sub .i64 (.c (.ofNat 0)) (.bin .shr .i64 (.wrap .i64 (.wrap .u64 (.bin .shl .u64 (.bin .shr .u64 (.wrap .u64 (.bin .shl .u64 (.v 1) (.c (.ofNat 32)))) (.c (.ofNat 32))) (.c (.ofNat 32))))) (.c (.ofNat 32)))))) (.c (.ofNat 32)))) (.c (.ofNat 32)))) = false → False := by
  intro hL
  have m1 : env 1 % 18446744073709551616 = env 1 := by omega
  have m2 : env 2 % 18446744073709551616 = env 2 := by omega
  have m3 : (env 1).tmod (env 2) % 18446744073709551616 = (env 1).tmod (env 2) := by have := small a1 a2; omega
  simp only [e0, e1, e86, e87, e92, e88, e89, e90, IE.den, den_iff, BE.P, Bool.not_true, Bool.not_false, Int.ofNat_eq_natCast, den_and, den_tmod, s_i64, n32, n64, cut32, cut0, sgn32, sgn0, t32, t64, neg1, negA, negB, ↓mm] at h0 h1 h2 h3 h4 h5 h6 h7 hL
  try simp only [mm, ee, den_add, den_sub, den_mul, den_tdiv, den_tmod, den_and, den_or, den_xor, and_low, and_31, and_63, and_lt, or_lt, xor_lt, shr_lt a1 b1, wrap_u32, wrap_u64, wrap_i32, wrap_i64, tdiv_neg1, tmod_neg1, m1, m2, m3] at h0 h1 h2 h3 h4 h5 h6 h7 hL
  first | omega | exact absurd rfl hL | (simp at hL)
theorem lf7 (a1 : 0 ≤ env 1) (b1 : env 1 ≤ 18446744073709551615) (a2 : 0 ≤ env 2) (b2 : env 2 ≤ 18446744073709551615) (h0 : e0.den env = true) (h1 : e1.den env = true) (h2 : e86.den env = true) (h3 : e87.den env = false) (h4 : e92.den env = false) (h5 : e88.den env = false) (h6 : e89.den env = false) (h7 : e91.den env = false) : BE.den env (.eq (.bin .and .u64 (.wrap .u64 (.wrap .i64 (.bin .tdiv .i64 (.wrap .i64 (.wrap .i32 (.bin .and .u64 (.bin .and .u64 (.v 1) (.c (.ofNat 4294967295))) (.c (.ofNat 4294967295))))) (.c (.negSucc 0))))) (.c (.ofNat 4294967295))) (.bin .shr .u64 (.wrap .u64 (.bin .shl .u64 (.wrap .u64 (.wrap .i64 (.bin .tdiv .i64 (.bin .shr .i64 (.wrap .i64 (.wrap .u64 (.bin .shl .u64 (.bin .shr .u64 (.wrap .u64 (.bin .shl .u64 (.v 1) (.c (.ofNat 32)))) (.c (.ofNat 32))) (.c (.ofNat 32))))) (.c (.ofNat 32))) (.bin .shr .i64 (.wrap .i64 (.wrap .u64 (.bin .shl .u64 (.bin .shr .u64 (.wrap .u64 (.bin .shl .u64 (.v 2) (.c (.ofNat 32)))) (.c (.ofNat 32))) (.c (.ofNat 32))))) (.c (.ofNat 32)))))) (.c (.ofNat 32)))) (.c (.ofNat 32)))) = false → False := by
  intro hL
  have m1 : env 1 % 18446744073709551616 = env 1 := by omega
  have m2 : env 2 % 18446744073709551616 = env 2 := by omega
  have m3 : (env 1).tmod (env 2) % 18446744073709551616 = (env 1).tmod (env 2) := by have := small a1 a2; omega
  simp only [e0, e1, e86, e87, e92, e88, e89, e91, IE.den, den_iff, BE.P, Bool.not_true, Bool.not_false, Int.ofNat_eq_natCast, den_and, den_tmod, s_i64, n32, n64, cut32, cut0, sgn32, sgn0, t32, t64, neg1, negA, negB, ↓mm] at h0 h1 h2 h3 h4 h5 h6 h7 hL
  try simp only [mm, ee, den_add, den_sub, den_mul, den_tdiv, den_tmod, den_and, den_or, den_xor, and_low, and_31, and_63, and_lt, or_lt, xor_lt, shr_lt a1 b1, wrap_u32, wrap_u64, wrap_i32, wrap_i64, tdiv_neg1, tmod_neg1, m1, m2, m3] at h0 h1 h2 h3 h4 h5 h6 h7 hL
  first | omega | exact absurd rfl hL | (simp at hL)
theorem lf8 (a1 : 0 ≤ env 1) (b1 : env 1 ≤ 18446744073709551615) (a2 : 0 ≤ env 2) (b2 : env 2 ≤ 18446744073709551615) (h0 : e0.den env = true) (h1 : e1.den env = true) (h2 : e86.den env = false) (h3 : e87.den env = false) (h4 : e93.den env = false) (h5 : e88.den env = false) (h6 : e89.den env = true) (h7 : e90.den env = false) : BE.den env (.eq (.bin .and .u64 (.wrap .u64 (.wrap .i64 (.bin .tdiv .i64 (.wrap .i64 (.wrap .i32 (.bin .and .u64 (.bin .and .u64 (.v 1) (.c (.ofNat 4294967295))) (.c (.ofNat 4294967295))))) (.wrap .i64 (.wrap .i32 (.bin .and .u64 (.bin .and .u64 (.v 2) (.c (.ofNat 4294967295))) (.c (.ofNat 4294967295)))))))) (.c (.ofNat 4294967295))) (.bin .shr .u64 (.wrap .u64 (.bin .shl .u64 (.wrap .u64 (.wrap .i64 (.bin .sub .i64 (.c (.ofNat 0)) (.bin .shr .i64 (.wrap .i64 (.wrap .u64 (.bin .shl .u64 (.bin .shr .u64 (.wrap .u64 (.bin .shl .u64 (.v 1) (.c (.ofNat 32)))) (.c (.ofNat 32))) (.c (.ofNat 32))))) (.c (.ofNat 32)))))) (.c (.ofNat 32)))) (.c (.ofNat 32)))) = false → False := by
  intro hL
  have m1 : env 1 % 18446744073709551616 = env 1 := by omega
  have m2 : env 2 % 18446744073709551616 = env 2 := by omega
  have m3 : (env 1).tmod (env 2) % 18446744073709551616 = (env 1).tmod (env 2) := by have := small a1 a2; omega
  simp only [e0, e1, e86, e87, e93, e88, e89, e90, IE.den, den_iff, BE.P, Bool.not_true, Bool.not_false, Int.ofNat_eq_natCast, den_and, den_tmod, s_i64, n32, n64, cut32, cut0, sgn32, sgn0, t32, t64, neg1, negA, negB, ↓mm] at h0 h1 h2 h3 h4 h5 h6 h7 hL
  try simp only [mm, ee, den_add, den_sub, den_mul, den_tdiv, den_tmod, den_and, den_or, den_xor, and_low, and_31, and_63, and_lt, or_lt, xor_lt, shr_lt a1 b1, wrap_u32, wrap_u64, wrap_i32, wrap_i64, tdiv_neg1, tmod_neg1, m1, m2, m3] at h0 h1 h2 h3 h4 h5 h6 h7 hL
  first | omega | exact absurd rfl hL | (simp at hL)
theorem lf9 (a1 : 0 ≤ env 1) (b1 : env 1 ≤ 18446744073709551615) (a2 : 0 ≤ env 2) (b2 : env 2 ≤ 18446744073709551615) (h0 : e0.den env = true) (h1 : e1.den env = true) (h2 : e86.den env = false) (h3 : e87.den env = false) (h4 : e93.den env = false) (h5 : e88.den env = false) (h6 : e89.den env = false) (h7 : e91.den env = false) : BE.den env (.eq (.bin .and .u64 (.wrap .u64 (.wrap .i64 (.bin .tdiv .i64 (.wrap .i64 (.wrap .i32 (.bin .and .u64 (.bin .and .u64 (.v 1) (.c (.ofNat 4294967295))) (.c (.ofNat 4294967295))))) (.wrap .i64 (.wrap .i32 (.bin .and .u64 (.bin .and .u64 (.v 2) (.c (.ofNat 4294967295))) (.c (.ofNat 4294967295)))))))) (.c (.ofNat 4294967295))) (.bin .shr .u64 (.wrap .u64 (.bin .shl .u64 (.wrap .u64 (.wrap .i64 (.bin .tdiv .i64 (.bin .shr .i64 (.wrap .i64 (.wrap .u64 (.bin .shl .u64 (.bin .shr .u64 (.wrap .u64 (.bin .shl .u64 (.v 1) (.c (.ofNat 32)))) (.c (.ofNat 32))) (.c (.ofNat 32))))) (.c (.ofNat 32))) (.bin .shr .i64 (.wrap .i64 (.wrap .u64 (.bin .shl .u64 (.bin .shr .u64 (.wrap .u64 (.bin .shl .u64 (.v 2) (.c (.ofNat 32)))) (.c (.ofNat 32))) (.c (.ofNat 32))))) (.c (.ofNat 32)))))) (.c (.ofNat 32)))) (.c (.ofNat 32)))) = false → False := by
  intro hL
  have m1 : env 1 % 18446744073709551616 = env 1 := by omega
  have m2 : env 2 % 18446744073709551616 = env 2 := by omega
  have m3 : (env 1).tmod (env 2) % 18446744073709551616 = (env 1).tmod (env 2) := by have := small a1 a2; omega
  simp only [e0, e1, e86, e87, e93, e88, e89, e91, IE.den, den_iff, BE.P, Bool.not_true, Bool.not_false, Int.ofNat_eq_natCast, den_and, den_tmod, s_i64, n32, n64, cut32, cut0, sgn32, sgn0, t32, t64, neg1, negA, negB, ↓mm] at h0 h1 h2 h3 h4 h5 h6 h7 hL
  try simp only [mm, ee, den_add, den_sub, den_mul, den_tdiv, den_tmod, den_and, den_or, den_xor, and_low, and_31, and_63, and_lt, or_lt, xor_lt, shr_lt a1 b1, wrap_u32, wrap_u64, wrap_i32, wrap_i64, tdiv_neg1, tmod_neg1, m1, m2, m3] at h0 h1 h2 h3 h4 h5 h6 h7 hL
  first | omega | exact absurd rfl hL | (simp at hL)
theorem lf10 (a1 : 0 ≤ env 1) (b1 : env 1 ≤ 18446744073709551615) (a2 : 0 ≤ env 2) (b2 : env 2 ≤ 18446744073709551615) (h0 : e0.den env = true) (h1 : e1.den env = true) (h2 : e86.den env = true) (h3 : e87.den env = false) (h4 : e88.den env = false) : BE.den env (.eq (.bin .and .u64 (.wrap .u64 (.bin .tdiv .u64 (.bin .and .u64 (.bin .and .u64 (.v 1) (.c (.ofNat 4294967295))) (.c (.ofNat 4294967295))) (.bin .and .u64 (.bin .and .u64 (.v 2) (.c (.ofNat 4294967295))) (.c (.ofNat 4294967295))))) (.c (.ofNat 4294967295))) (.bin .shr .u64 (.wrap .u64 (.bin .shl .u64 (.wrap .u64 (.bin .tdiv .u64 (.bin .shr .u64 (.wrap .u64 (.bin .shl .u64 (.v 1) (.c (.ofNat 32)))) (.c (.ofNat 32))) (.bin .shr .u64 (.wrap .u64 (.bin .shl .u64 (.v 2) (.c (.ofNat 32)))) (.c (.ofNat 32))))) (.c (.ofNat 32)))) (.c (.ofNat 32)))) = false → False := by
  intro hL
  have m1 : env 1 % 18446744073709551616 = env 1 := by omega
  have m2 : env 2 % 18446744073709551616 = env 2 := by omega
  have m3 : (env 1).tmod (env 2) % 18446744073709551616 = (env 1).tmod (env 2) := by have := small a1 a2; omega
  simp only [e0, e1, e86, e87, e88, IE.den, den_iff, BE.P, Bool.not_true, Bool.not_false, Int.ofNat_eq_natCast, den_and, den_tmod, s_i64, n32, n64, cut32, cut0, sgn32, sgn0, t32, t64, neg1, negA, negB, ↓mm] at h0 h1 h2 h3 h4 hL
  try simp only [mm, ee, den_add, den_sub, den_mul, den_tdiv, den_tmod, den_and, den_or, den_xor, and_low, and_31, and_63, and_lt, or_lt, xor_lt, shr_lt a1 b1, wrap_u32, wrap_u64, wrap_i32, wrap_i64, tdiv_neg1, tmod_neg1, m1, m2, m3] at h0 h1 h2 h3 h4 hL
  first | omega | exact absurd rfl hL | (simp at hL)
theorem lf11 (a1 : 0 ≤ env 1) (b1 : env 1 ≤ 18446744073709551615) (a2 : 0 ≤ env 2) (b2 : env 2 ≤ 18446744073709551615) (h0 : e0.den env = true) (h1 : e1.den env = true) (h2 : e86.den env = false) (h3 : e87.den env = false) (h4 : e88.den env = false) : BE.den env (.eq (.bin .and .u64 (.wrap .u64 (.bin .tdiv .u64 (.bin .and .u64 (.bin .and .u64 (.v 1) (.c (.ofNat 4294967295))) (.c (.ofNat 4294967295))) (.bin .and .u64 (.bin .and .u64 (.v 2) (.c (.ofNat 4294967295))) (.c (.ofNat 4294967295))))) (.c (.ofNat 4294967295))) (.bin .shr .u64 (.wrap .u64 (.bin .shl .u64 (.wrap .u64 (.bin .tdiv .u64 (.bin .shr .u64 (.wrap .u64 (.bin .shl .u64 (.v 1) (.c (.ofNat 32)))) (.c (.ofNat 32))) (.bin .shr .u64 (.wrap .u64 (.bin .shl .u64 (.v 2) (.c (.ofNat 32)))) (.c (.ofNat 32))))) (.c (.ofNat 32)))) (.c (.ofNat 32)))) = false → False := by
  intro hL
  have m1 : env 1 % 18446744073709551616 = env 1 := by omega
  have m2 : env 2 % 18446744073709551616 = env 2 := by omega
  have m3 : (env 1).tmod (env 2) % 18446744073709551616 = (env 1).tmod (env 2) := by have := small a1 a2; omega
  simp only [e0, e1, e86, e87, e88, IE.den, den_iff, BE.P, Bool.not_true, Bool.not_false, Int.ofNat_eq_natCast, den_and, den_tmod, s_i64, n32, n64, cut32, cut0, sgn32, sgn0, t32, t64, neg1, negA, negB, ↓mm] at h0 h1 h2 h3 h4 hL
  try simp only [mm, ee, den_add, den_sub, den_mul, den_tdiv, den_tmod, den_and, den_or, den_xor, and_low, and_31, and_63, and_lt, or_lt, xor_lt, shr_lt a1 b1, wrap_u32, wrap_u64, wrap_i32, wrap_i64, tdiv_neg1, tmod_neg1, m1, m2, m3] at h0 h1 h2 h3 h4 hL
  first | omega | exact absurd rfl hL | (simp at hL)
theorem lf12 (a1 : 0 ≤ env 1) (b1 : env 1 ≤ 18446744073709551615) (a2 : 0 ≤ env 2) (b2 : env 2 ≤ 18446744073709551615) (h0 : e0.den env = true) (h1 : e1.den env = true) (h2 : e86.den env = true) (h3 : e87.den env = false) (h4 : e88.den env = false) (h5 : e89.den env = false) (h6 : e91.den env = false) : BE.den env (.eq (.c (.ofNat 0)) (.bin .shr .u64 (.wrap .u64 (.bin .shl .u64 (.wrap .u64 (.bin .tmod .i64 (.bin .shr .i64 (.wrap .i64 (.wrap .u64 (.bin .shl .u64 (.bin .shr .u64 (.wrap .u64 (.bin .shl .u64 (.v 1) (.c (.ofNat 32)))) (.c (.ofNat 32))) (.c (.ofNat 32))))) (.c (.ofNat 32))) (.bin .shr .i64 (.wrap .i64 (.wrap .u64 (.bin .shl .u64 (.bin .shr .u64 (.wrap .u64 (.bin .shl .u64 (.v 2) (.c (.ofNat 32)))) (.c (.ofNat 32))) (.c (.ofNat 32))))) (.c (.ofNat 32))))) (.c (.ofNat 32)))) (.c (.ofNat 32)))) = false → False := by
  intro hL
  have m1 : env 1 % 18446744073709551616 = env 1 := by omega
  have m2 : env 2 % 18446744073709551616 = env 2 := by omega
  have m3 : (env 1).tmod (env 2) % 18446744073709551616 = (env 1).tmod (env 2) := by have := small a1 a2; omega
  simp only [e0, e1, e86, e87, e88, e89, e91, IE.den, den_iff, BE.P, Bool.not_true, Bool.not_false, Int.ofNat_eq_natCast, den_and, den_tmod, s_i64, n32, n64, cut32, cut0, sgn32, sgn0, t32, t64, neg1, negA, negB, ↓mm] at h0 h1 h2 h3 h4 h5 h6 hL
  try simp only [mm, ee, den_add, den_sub, den_mul, den_tdiv, den_tmod, den_and, den_or, den_xor, and_low, and_31, and_63, and_lt, or_lt, xor_lt, shr_lt a1 b1, wrap_u32, wrap_u64, wrap_i32, wrap_i64, tdiv_neg1, tmod_neg1, m1, m2, m3] at h0 h1 h2 h3 h4 h5 h6 hL
  first | omega | exact absurd rfl hL | (simp at hL)
theorem lf13 (a1 : 0 ≤ env 1) (b1 : env 1 ≤ 18446744073709551615) (a2 : 0 ≤ env 2) (b2 : env 2 ≤ 18446744073709551615) (h0 : e0.den env = true) (h1 : e1.den env = true) (h2 : e86.den env = false) (h3 : e87.den env = false) (h4 : e93.den env = false) (h5 : e88.den env = false) (h6 : e89.den env = true) : BE.den env (.eq (.bin .and .u64 (.wrap .u64 (.bin .tmod .i64 (.wrap .i64 (.wrap .i32 (.bin .and .u64 (.bin .and .u64 (.v 1) (.c (.ofNat 4294967295))) (.c (.ofNat 4294967295))))) (.wrap .i64 (.wrap .i32 (.bin .and .u64 (.bin .and .u64 (.v 2) (.c (.ofNat 4294967295))) (.c (.ofNat 4294967295))))))) (.c (.ofNat 4294967295))) (.c (.ofNat 0))) = false → False := by
  intro hL
  have m1 : env 1 % 18446744073709551616 = env 1 := by omega
  have m2 : env 2 % 18446744073709551616 = env 2 := by omega
  have m3 : (env 1).tmod (env 2) % 18446744073709551616 = (env 1).tmod (env 2) := by have := small a1 a2; omega
  simp only [e0, e1, e86, e87, e93, e88, e89, IE.den, den_iff, BE.P, Bool.not_true, Bool.not_false, Int.ofNat_eq_natCast, den_and, den_tmod, s_i64, n32, n64, cut32, cut0, sgn32, sgn0, t32, t64, neg1, negA, negB, ↓mm] at h0 h1 h2 h3 h4 h5 h6 hL
  try simp only [mm, ee, den_add, den_sub, den_mul, den_tdiv, den_tmod, den_and, den_or, den_xor, and_low, and_31, and_63, and_lt, or_lt, xor_lt, shr_lt a1 b1, wrap_u32, wrap_u64, wrap_i32, wrap_i64, tdiv_neg1, tmod_neg1, m1, m2, m3] at h0 h1 h2 h3 h4 h5 h6 hL
  first | omega | exact absurd rfl hL | (simp at hL)
theorem lf14 (a1 : 0 ≤ env 1) (b1 : env 1 ≤ 18446744073709551615) (a2 : 0 ≤ env 2) (b2 : env 2 ≤ 18446744073709551615) (h0 : e0.den env = true) (h1 : e1.den env = true) (h2 : e86.den env = false) (h3 : e87.den env = false) (h4 : e93.den env = false) (h5 : e88.den env = false) (h6 : e89.den env = false) (h7 : e91.den env = false) : BE.den env (.eq (.bin .and .u64 (.wrap .u64 (.bin .tmod .i64 (.wrap .i64 (.wrap .i32 (.bin .and .u64 (.bin .and .u64 (.v 1) (.c (.ofNat 4294967295))) (.c (.ofNat 4294967295))))) (.wrap .i64 (.wrap .i32 (.bin .and .u64 (.bin .and .u64 (.v 2) (.c (.ofNat 4294967295))) (.c (.ofNat 4294967295))))))) (.c (.ofNat 4294967295))) (.bin .shr .u64 (.wrap .u64 (.bin .shl .u64 (.wrap .u64 (.bin .tmod .i64 (.bin .shr .i64 (.wrap .i64 (.wrap .u64 (.bin .shl .u64 (.bin .shr .u64 (.wrap .u64 (.bin .shl .u64 (.v 1) (.c (.ofNat 32)))) (.c (.ofNat 32))) (.c (.ofNat 32))))) (.c (.ofNat 32))) (.bin .shr .i64 (.wrap .i64 (.wrap .u64 (.bin .shl .u64 (.bin .shr .u64 (.wrap .u64 (.bin .shl .u64 (.v 2) (.c (.ofNat 32)))) (.c (.ofNat 32))) (.c (.ofNat 32))))) (.c (.ofNat 32))))) (.c (.ofNat 32)))) (.c (.ofNat 32)))) = false → False := by
  intro hL
  have m1 : env 1 % 18446744073709551616 = env 1 := by omega
  have m2 : env 2 % 18446744073709551616 = env 2 := by omega
  have m3 : (env 1).tmod (env 2) % 18446744073709551616 = (env 1).tmod (env 2) := by have := small a1 a2; omega
  simp only [e0, e1, e86, e87, e93, e88, e89, e91, IE.den, den_iff, BE.P, Bool.not_true, Bool.not_false, Int.ofNat_eq_natCast, den_and, den_tmod, s_i64, n32, n64, cut32, cut0, sgn32, sgn0, t32, t64, neg1, negA, negB, ↓mm] at h0 h1 h2 h3 h4 h5 h6 h7 hL
  try simp only [mm, ee, den_add, den_sub, den_mul, den_tdiv, den_tmod, den_and, den_or, den_xor, and_low, and_31, and_63, and_lt, or_lt, xor_lt, shr_lt a1 b1, wrap_u32, wrap_u64, wrap_i32, wrap_i64, tdiv_neg1, tmod_neg1, m1, m2, m3] at h0 h1 h2 h3 h4 h5 h6 h7 hL
  first | omega | exact absurd rfl hL | (simp at hL)
theorem lf15 (a1 : 0 ≤ env 1) (b1 : env 1 ≤ 18446744073709551615) (a2 : 0 ≤ env 2) (b2 : env 2 ≤ 18446744073709551615) (h0 : e0.den env = true) (h1 : e1.den env = true) (h2 : e86.den env = true) (h3 : e87.den env = false) (h4 : e88.den env = false) : BE.den env (.eq (.bin .and .u64 (.bin .tmod .u64 (.bin .and .u64 (.bin .and .u64 (.v 1) (.c (.ofNat 4294967295))) (.c (.ofNat 4294967295))) (.bin .and .u64 (.bin .and .u64 (.v 2) (.c (.ofNat 4294967295))) (.c (.ofNat 4294967295)))) (.c (.ofNat 4294967295))) (.bin .shr .u64 (.wrap .u64 (.bin .shl .u64 (.bin .tmod .u64 (.bin .shr .u64 (.wrap .u64 (.bin .shl .u64 (.v 1) (.c (.ofNat 32)))) (.c (.ofNat 32))) (.bin .shr .u64 (.wrap .u64 (.bin .shl .u64 (.v 2) (.c (.ofNat 32)))) (.c (.ofNat 32)))) (.c (.ofNat 32)))) (.c (.ofNat 32)))) = false → False := by
  intro hL
  have m1 : env 1 % 18446744073709551616 = env 1 := by omega
  have m2 : env 2 % 18446744073709551616 = env 2 := by omega
  have m3 : (env 1).tmod (env 2) % 18446744073709551616 = (env 1).tmod (env 2) := by have := small a1 a2; omega
  simp only [e0, e1, e86, e87, e88, IE.den, den_iff, BE.P, Bool.not_true, Bool.not_false, Int.ofNat_eq_natCast, den_and, den_tmod, s_i64, n32, n64, cut32, cut0, sgn32, sgn0, t32, t64, neg1, negA, negB, ↓mm] at h0 h1 h2 h3 h4 hL
  try simp only [mm, ee, den_add, den_sub, den_mul, den_tdiv, den_tmod, den_and, den_or, den_xor, and_low, and_31, and_63, and_lt, or_lt, xor_lt, shr_lt a1 b1, wrap_u32, wrap_u64, wrap_i32, wrap_i64, tdiv_neg1, tmod_neg1, m1, m2, m3] at h0 h1 h2 h3 h4 hL
  first | omega | exact absurd rfl hL | (simp at hL)
theorem lf16 (a1 : 0 ≤ env 1) (b1 : env 1 ≤ 18446744073709551615) (a2 : 0 ≤ env 2) (b2 : env 2 ≤ 18446744073709551615) (h0 : e0.den env = true) (h1 : e1.den env = true) (h2 : e86.den env = false) (h3 : e87.den env = false) (h4 : e88.den env = false) : BE.den env (.eq (.bin .and .u64 (.bin .tmod .u64 (.bin .and .u64 (.bin .and .u64 (.v 1) (.c (.ofNat 4294967295))) (.c (.ofNat 4294967295))) (.bin .and .u64 (.bin .and .u64 (.v 2) (.c (.ofNat 4294967295))) (.c (.ofNat 4294967295)))) (.c (.ofNat 4294967295))) (.bin .shr .u64 (.wrap .u64 (.bin .shl .u64 (.bin .tmod .u64 (.bin .shr .u64 (.wrap .u64 (.bin .shl .u64 (.v 1) (.c (.ofNat 32)))) (.c (.ofNat 32))) (.bin .shr .u64 (.wrap .u64 (.bin .shl .u64 (.v 2) (.c (.ofNat 32)))) (.c (.ofNat 32)))) (.c (.ofNat 32)))) (.c (.ofNat 32)))) = false → False := by
  intro hL
  have m1 : env 1 % 18446744073709551616 = env 1 := by omega
  have m2 : env 2 % 18446744073709551616 = env 2 := by omega
  have m3 : (env 1).tmod (env 2) % 18446744073709551616 = (env 1).tmod (env 2) := by have := small a1 a2; omega
  simp only [e0, e1, e86, e87, e88, IE.den, den_iff, BE.P, Bool.not_true, Bool.not_false, Int.ofNat_eq_natCast, den_and, den_tmod, s_i64, n32, n64, cut32, cut0, sgn32, sgn0, t32, t64, neg1, negA, negB, ↓mm] at h0 h1 h2 h3 h4 hL
  try simp only [mm, ee, den_add, den_sub, den_mul, den_tdiv, den_tmod, den_and, den_or, den_xor, and_low, and_31, and_63, and_lt, or_lt, xor_lt, shr_lt a1 b1, wrap_u32, wrap_u64, wrap_i32, wrap_i64, tdiv_neg1, tmod_neg1, m1, m2, m3] at h0 h1 h2 h3 h4 hL
  first | omega | exact absurd rfl hL | (simp at hL)
theorem lf17 (a1 : 0 ≤ env 1) (b1 : env 1 ≤ 18446744073709551615) (a2 : 0 ≤ env 2) (b2 : env 2 ≤ 18446744073709551615) (h0 : e0.den env = true) (h1 : e1.den env = true) : BE.den env (.eq (.bin .and .u64 (.bin .and .u64 (.bin .and .u64 (.bin .and .u64 (.v 1) (.c (.ofNat 4294967295))) (.c (.ofNat 4294967295))) (.bin .and .u64 (.bin .and .u64 (.v 2) (.c (.ofNat 4294967295))) (.c (.ofNat 4294967295)))) (.c (.ofNat 4294967295))) (.bin .shr .u64 (.wrap .u64 (.bin .shl .u64 (.bin .and .u64 (.bin .shr .u64 (.wrap .u64 (.bin .shl .u64 (.v 1) (.c (.ofNat 32)))) (.c (.ofNat 32))) (.bin .shr .u64 (.wrap .u64 (.bin .shl .u64 (.v 2) (.c (.ofNat 32)))) (.c (.ofNat 32)))) (.c (.ofNat 32)))) (.c (.ofNat 32)))) = false → False := by
  intro hL
  have m1 : env 1 % 18446744073709551616 = env 1 := by omega
  have m2 : env 2 % 18446744073709551616 = env 2 := by omega
  have m3 : (env 1).tmod (env 2) % 18446744073709551616 = (env 1).tmod (env 2) := by have := small a1 a2; omega
  simp only [e0, e1, IE.den, den_iff, BE.P, Bool.not_true, Bool.not_false, Int.ofNat_eq_natCast, den_and, den_tmod, s_i64, n32, n64, cut32, cut0, sgn32, sgn0, t32, t64, neg1, negA, negB, ↓mm] at h0 h1 hL
  try simp only [mm, ee, den_add, den_sub, den_mul, den_tdiv, den_tmod, den_and, den_or, den_xor, and_low, and_31, and_63, and_lt, or_lt, xor_lt, shr_lt a1 b1, wrap_u32, wrap_u64, wrap_i32, wrap_i64, tdiv_neg1, tmod_neg1, m1, m2, m3] at h0 h1 hL
  first | omega | exact absurd rfl hL | (simp at hL)
theorem lf18 (a1 : 0 ≤ env 1) (b1 : env 1 ≤ 18446744073709551615) (a2 : 0 ≤ env 2) (b2 : env 2 ≤ 18446744073709551615) (h0 : e0.den env = true) (h1 : e1.den env = true) : BE.den env (.eq (.bin .and .u64 (.bin .or .u64 (.bin .and .u64 (.bin .and .u64 (.v 1) (.c (.ofNat 4294967295))) (.c (.ofNat 4294967295))) (.bin .and .u64 (.bin .and .u64 (.v 2) (.c (.ofNat 4294967295))) (.c (.ofNat 4294967295)))) (.c (.ofNat 4294967295))) (.bin .shr .u64 (.wrap .u64 (.bin .shl .u64 (.bin .or .u64 (.bin .shr .u64 (.wrap .u64 (.bin .shl .u64 (.v 1) (.c (.ofNat 32)))) (.c (.ofNat 32))) (.bin .shr .u64 (.wrap .u64 (.bin .shl .u64 (.v 2) (.c (.ofNat 32)))) (.c (.ofNat 32)))) (.c (.ofNat 32)))) (.c (.ofNat 32)))) = false → False := by
  intro hL
  have m1 : env 1 % 18446744073709551616 = env 1 := by omega
  have m2 : env 2 % 18446744073709551616 = env 2 := by omega
  have m3 : (env 1).tmod (env 2) % 18446744073709551616 = (env 1).tmod (env 2) := by have := small a1 a2; omega
  simp only [e0, e1, IE.den, den_iff, BE.P, Bool.not_true, Bool.not_false, Int.ofNat_eq_natCast, den_and, den_tmod, s_i64, n32, n64, cut32, cut0, sgn32, sgn0, t32, t64, neg1, negA, negB, ↓mm] at h0 h1 hL
  try simp only [mm, ee, den_add, den_sub, den_mul, den_tdiv, den_tmod, den_and, den_or, den_xor, and_low, and_31, and_63, and_lt, or_lt, xor_lt, shr_lt a1 b1, wrap_u32, wrap_u64, wrap_i32, wrap_i64, tdiv_neg1, tmod_neg1, m1, m2, m3] at h0 h1 hL
  first | omega | exact absurd rfl hL | (simp at hL)
theorem lf19 (a1 : 0 ≤ env 1) (b1 : env 1 ≤ 18446744073709551615) (a2 : 0 ≤ env 2) (b2 : env 2 ≤ 18446744073709551615) (h0 : e0.den env = true) (h1 : e1.den env = true) : BE.den env (.eq (.bin .and .u64 (.bin .xor .u64 (.bin .and .u64 (.bin .and .u64 (.v 1) (.c (.ofNat 4294967295))) (.c (.ofNat 4294967295))) (.bin .and .u64 (.bin .and .u64 (.v 2) (.c (.ofNat 4294967295))) (.c (.ofNat 4294967295)))) (.c (.ofNat 4294967295))) (.bin .shr .u64 (.wrap .u64 (.bin .shl .u64 (.bin .xor .u64 (.bin .shr .u64 (.wrap .u64 (.bin .shl .u64 (.v 1) (.c (.ofNat 32)))) (.c (.ofNat 32))) (.bin .shr .u64 (.wrap .u64 (.bin .shl .u64 (.v 2) (.c (.ofNat 32)))) (.c (.ofNat 32)))) (.c (.ofNat 32)))) (.c (.ofNat 32)))) = false → False := by
  intro hL
  have m1 : env 1 % 18446744073709551616 = env 1 := by omega
  have m2 : env 2 % 18446744073709551616 = env 2 := by omega
  have m3 : (env 1).tmod (env 2) % 18446744073709551616 = (env 1).tmod (env 2) := by have := small a1 a2; omega
  simp only [e0, e1, IE.den, den_iff, BE.P, Bool.not_true, Bool.not_false, Int.ofNat_eq_natCast, den_and, den_tmod, s_i64, n32, n64, cut32, cut0, sgn32, sgn0, t32, t64, neg1, negA, negB, ↓mm] at h0 h1 hL
  try simp only [mm, ee, den_add, den_sub, den_mul, den_tdiv, den_tmod, den_and, den_or, den_xor, and_low, and_31, and_63, and_lt, or_lt, xor_lt, shr_lt a1 b1, wrap_u32, wrap_u64, wrap_i32, wrap_i64, tdiv_neg1, tmod_neg1, m1, m2, m3] at h0 h1 hL
  first | omega | exact absurd rfl hL | (simp at hL)
theorem lf20 (a1 : 0 ≤ env 1) (b1 : env 1 ≤ 18446744073709551615) (a2 : 0 ≤ env 2) (b2 : env 2 ≤ 18446744073709551615) (h0 : e0.den env = true) (h1 : e1.den env = true) (h2 : e101.den env = true) (h3 : e102.den env = true) : BE.den env (.eq (.bin .and .u64 (.wrap .u64 (.bin .shl .u64 (.bin .and .u64 (.bin .and .u64 (.v 1) (.c (.ofNat 4294967295))) (.c (.ofNat 4294967295))) (.bin .and .i64 (.wrap .i64 (.bin .and .u64 (.bin .and .u64 (.v 2) (.c (.ofNat 4294967295))) (.c (.ofNat 4294967295)))) (.c (.ofNat 31))))) (.c (.ofNat 4294967295))) (.bin .shr .u64 (.wrap .u64 (.bin .shl .u64 (.wrap .u64 (.bin .shl .u64 (.bin .shr .u64 (.wrap .u64 (.bin .shl .u64 (.v 1) (.c (.ofNat 32)))) (.c (.ofNat 32))) (.bin .tmod .u64 (.bin .shr .u64 (.wrap .u64 (.bin .shl .u64 (.v 2) (.c (.ofNat 32)))) (.c (.ofNat 32))) (.c (.ofNat 32))))) (.c (.ofNat 32)))) (.c (.ofNat 32)))) = false → False := by
  intro hL
  have m1 : env 1 % 18446744073709551616 = env 1 := by omega
  have m2 : env 2 % 18446744073709551616 = env 2 := by omega
  have m3 : (env 1).tmod (env 2) % 18446744073709551616 = (env 1).tmod (env 2) := by have := small a1 a2; omega
  simp only [e0, e1, e101, e102, IE.den, den_iff, BE.P, Bool.not_true, Bool.not_false, Int.ofNat_eq_natCast, den_and, den_tmod, s_i64, n32, n64, cut32, cut0, sgn32, sgn0, t32, t64, neg1, negA, negB, ↓mm] at h0 h1 h2 h3 hL
  try simp only [mm, ee, den_add, den_sub, den_mul, den_tdiv, den_tmod, den_and, den_or, den_xor, and_low, and_31, and_63, and_lt, or_lt, xor_lt, shr_lt a1 b1, wrap_u32, wrap_u64, wrap_i32, wrap_i64, tdiv_neg1, tmod_neg1, m1, m2, m3] at h0 h1 h2 h3 hL
  first | omega | exact absurd rfl hL | (simp at hL)
theorem lf21 (a1 : 0 ≤ env 1) (b1 : env 1 ≤ 18446744073709551615) (a2 : 0 ≤ env 2) (b2 : env 2 ≤ 18446744073709551615) (h0 : e0.den env = true) (h1 : e1.den env = true) (h2 : e101.den env = true) (h3 : e102.den env = true) : BE.den env (.eq (.bin .and .u64 (.wrap .u64 (.bin .shr .i64 (.wrap .i64 (.wrap .i32 (.bin .and .u64 (.bin .and .u64 (.v 1) (.c (.ofNat 4294967295))) (.c (.ofNat 4294967295))))) (.bin .and .i64 (.wrap .i64 (.bin .and .u64 (.bin .and .u64 (.v 2) (.c (.ofNat 4294967295))) (.c (.ofNat 4294967295)))) (.c (.ofNat 31))))) (.c (.ofNat 4294967295))) (.bin .shr .u64 (.wrap .u64 (.bin .shl .u64 (.wrap .u64 (.bin .shr .i64 (.bin .shr .i64 (.wrap .i64 (.wrap .u64 (.bin .shl .u64 (.bin .shr .u64 (.wrap .u64 (.bin .shl .u64 (.v 1) (.c (.ofNat 32)))) (.c (.ofNat 32))) (.c (.ofNat 32))))) (.c (.ofNat 32))) (.bin .tmod .u64 (.bin .shr .u64 (.wrap .u64 (.bin .shl .u64 (.v 2) (.c (.ofNat 32)))) (.c (.ofNat 32))) (.c (.ofNat 32))))) (.c (.ofNat 32)))) (.c (.ofNat 32)))) = false → False := by
  intro hL
  have m1 : env 1 % 18446744073709551616 = env 1 := by omega
  have m2 : env 2 % 18446744073709551616 = env 2 := by omega
  have m3 : (env 1).tmod (env 2) % 18446744073709551616 = (env 1).tmod (env 2) := by have := small a1 a2; omega
  simp only [e0, e1, e101, e102, IE.den, den_iff, BE.P, Bool.not_true, Bool.not_false, Int.ofNat_eq_natCast, den_and, den_tmod, s_i64, n32, n64, cut32, cut0, sgn32, sgn0, t32, t64, neg1, negA, negB, ↓mm] at h0 h1 h2 h3 hL
  try simp only [mm, ee, den_add, den_sub, den_mul, den_tdiv, den_tmod, den_and, den_or, den_xor, and_low, and_31, and_63, and_lt, or_lt, xor_lt, shr_lt a1 b1, wrap_u32, wrap_u64, wrap_i32, wrap_i64, tdiv_neg1, tmod_neg1, m1, m2, m3] at h0 h1 h2 h3 hL
  first | omega | exact absurd rfl hL | (simp at hL)
theorem lf22 (a1 : 0 ≤ env 1) (b1 : env 1 ≤ 18446744073709551615) (a2 : 0 ≤ env 2) (b2 : env 2 ≤ 18446744073709551615) (h0 : e0.den env = true) (h1 : e1.den env = true) (h2 : e101.den env = true) (h3 : e102.den env = true) : BE.den env (.eq (.bin .and .u64 (.bin .shr .u64 (.bin .and .u64 (.bin .and .u64 (.v 1) (.c (.ofNat 4294967295))) (.c (.ofNat 4294967295))) (.bin .and .i64 (.wrap .i64 (.bin .and .u64 (.bin .and .u64 (.v 2) (.c (.ofNat 4294967295))) (.c (.ofNat 4294967295)))) (.c (.ofNat 31)))) (.c (.ofNat 4294967295))) (.bin .shr .u64 (.wrap .u64 (.bin .shl .u64 (.bin .shr .u64 (.bin .shr .u64 (.wrap .u64 (.bin .shl .u64 (.v 1) (.c (.ofNat 32)))) (.c (.ofNat 32))) (.bin .tmod .u64 (.bin .shr .u64 (.wrap .u64 (.bin .shl .u64 (.v 2) (.c (.ofNat 32)))) (.c (.ofNat 32))) (.c (.ofNat 32)))) (.c (.ofNat 32)))) (.c (.ofNat 32)))) = false → False := by
  intro hL
  have m1 : env 1 % 18446744073709551616 = env 1 := by omega
  have m2 : env 2 % 18446744073709551616 = env 2 := by omega
  have m3 : (env 1).tmod (env 2) % 18446744073709551616 = (env 1).tmod (env 2) := by have := small a1 a2; omega
  simp only [e0, e1, e101, e102, IE.den, den_iff, BE.P, Bool.not_true, Bool.not_false, Int.ofNat_eq_natCast, den_and, den_tmod, s_i64, n32, n64, cut32, cut0, sgn32, sgn0, t32, t64, neg1, negA, negB, ↓mm] at h0 h1 h2 h3 hL
  try simp only [mm, ee, den_add, den_sub, den_mul, den_tdiv, den_tmod, den_and, den_or, den_xor, and_low, and_31, and_63, and_lt, or_lt, xor_lt, shr_lt a1 b1, wrap_u32, wrap_u64, wrap_i32, wrap_i64, tdiv_neg1, tmod_neg1, m1, m2, m3] at h0 h1 h2 h3 hL
  first | omega | exact absurd rfl hL | (simp at hL)
theorem lf25 (a1 : 0 ≤ env 1) (b1 : env 1 ≤ 18446744073709551615) (a2 : 0 ≤ env 2) (b2 : env 2 ≤ 18446744073709551615) (h0 : e0.den env = true) (h1 : e1.den env = true) : BE.den env (.eq (.wrap .u64 (.bin .add .u64 (.v 1) (.v 2))) (.bin .shr .u64 (.wrap .u64 (.bin .shl .u64 (.wrap .u64 (.bin .add .u64 (.bin .shr .u64 (.wrap .u64 (.bin .shl .u64 (.v 1) (.c (.ofNat 0)))) (.c (.ofNat 0))) (.bin .shr .u64 (.wrap .u64 (.bin .shl .u64 (.v 2) (.c (.ofNat 0)))) (.c (.ofNat 0))))) (.c (.ofNat 0)))) (.c (.ofNat 0)))) = false → False := by
  intro hL
  have m1 : env 1 % 18446744073709551616 = env 1 := by omega
  have m2 : env 2 % 18446744073709551616 = env 2 := by omega
  have m3 : (env 1).tmod (env 2) % 18446744073709551616 = (env 1).tmod (env 2) := by have := small a1 a2; omega
  simp only [e0, e1, IE.den, den_iff, BE.P, Bool.not_true, Bool.not_false, Int.ofNat_eq_natCast, den_and, den_tmod, s_i64, n32, n64, cut32, cut0, sgn32, sgn0, t32, t64, neg1, negA, negB, ↓mm] at h0 h1 hL
  try simp only [mm, ee, den_add, den_sub, den_mul, den_tdiv, den_tmod, den_and, den_or, den_xor, and_low, and_31, and_63, and_lt, or_lt, xor_lt, shr_lt a1 b1, wrap_u32, wrap_u64, wrap_i32, wrap_i64, tdiv_neg1, tmod_neg1, m1, m2, m3] at h0 h1 hL
  first | omega | exact absurd rfl hL | (simp at hL)
theorem lf26 (a1 : 0 ≤ env 1) (b1 : env 1 ≤ 18446744073709551615) (a2 : 0 ≤ env 2) (b2 : env 2 ≤ 18446744073709551615) (h0 : e0.den env = true) (h1 : e1.den env = true) : BE.den env (.eq (.wrap .u64 (.bin .sub .u64 (.v 1) (.v 2))) (.bin .shr .u64 (.wrap .u64 (.bin .shl .u64 (.wrap .u64 (.bin .sub .u64 (.bin .shr .u64 (.wrap .u64 (.bin .shl .u64 (.v 1) (.c (.ofNat 0)))) (.c (.ofNat 0))) (.bin .shr .u64 (.wrap .u64 (.bin .shl .u64 (.v 2) (.c (.ofNat 0)))) (.c (.ofNat 0))))) (.c (.ofNat 0)))) (.c (.ofNat 0)))) = false → False := by
  intro hL
  have m1 : env 1 % 18446744073709551616 = env 1 := by omega
  have m2 : env 2 % 18446744073709551616 = env 2 := by omega
  have m3 : (env 1).tmod (env 2) % 18446744073709551616 = (env 1).tmod (env 2) := by have := small a1 a2; omega
  simp only [e0, e1, IE.den, den_iff, BE.P, Bool.not_true, Bool.not_false, Int.ofNat_eq_natCast, den_and, den_tmod, s_i64, n32, n64, cut32, cut0, sgn32, sgn0, t32, t64, neg1, negA, negB, ↓mm] at h0 h1 hL
  try simp only [mm, ee, den_add, den_sub, den_mul, den_tdiv, den_tmod, den_and, den_or, den_xor, and_low, and_31, and_63, and_lt, or_lt, xor_lt, shr_lt a1 b1, wrap_u32, wrap_u64, wrap_i32, wrap_i64, tdiv_neg1, tmod_neg1, m1, m2, m3] at h0 h1 hL
  first | omega | exact absurd rfl hL | (simp at hL)
theorem lf27 (a1 : 0 ≤ env 1) (b1 : env 1 ≤ 18446744073709551615) (a2 : 0 ≤ env 2) (b2 : env 2 ≤ 18446744073709551615) (h0 : e0.den env = true) (h1 : e1.den env = true) : BE.den env (.eq (.wrap .u64 (.bin .mul .u64 (.v 1) (.v 2))) (.bin .shr .u64 (.wrap .u64 (.bin .shl .u64 (.wrap .u64 (.bin .mul .u64 (.bin .shr .u64 (.wrap .u64 (.bin .shl .u64 (.v 1) (.c (.ofNat 0)))) (.c (.ofNat 0))) (.bin .shr .u64 (.wrap .u64 (.bin .shl .u64 (.v 2) (.c (.ofNat 0)))) (.c (.ofNat 0))))) (.c (.ofNat 0)))) (.c (.ofNat 0)))) = false → False := by
  intro hL
  have m1 : env 1 % 18446744073709551616 = env 1 := by omega
  have m2 : env 2 % 18446744073709551616 = env 2 := by omega
  have m3 : (env 1).tmod (env 2) % 18446744073709551616 = (env 1).tmod (env 2) := by have := small a1 a2; omega
  simp only [e0, e1, IE.den, den_iff, BE.P, Bool.not_true, Bool.not_false, Int.ofNat_eq_natCast, den_and, den_tmod, s_i64, n32, n64, cut32, cut0, sgn32, sgn0, t32, t64, neg1, negA, negB, ↓mm] at h0 h1 hL
  try simp only [mm, ee, den_add, den_sub, den_mul, den_tdiv, den_tmod, den_and, den_or, den_xor, and_low, and_31, and_63, and_lt, or_lt, xor_lt, shr_lt a1 b1, wrap_u32, wrap_u64, wrap_i32, wrap_i64, tdiv_neg1, tmod_neg1, m1, m2, m3] at h0 h1 hL
  first | omega | exact absurd rfl hL | (simp at hL)
theorem lf28 (a1 : 0 ≤ env 1) (b1 : env 1 ≤ 18446744073709551615) (a2 : 0 ≤ env 2) (b2 : env 2 ≤ 18446744073709551615) (h0 : e0.den env = true) (h1 : e1.den env = true) (h2 : e119.den env = true) (h3 : e120.den env = false) (h4 : e121.den env = false) (h5 : e122.den env = false) (h6 : e123.den env = true) (h7 : e124.den env = false) : BE.den env (.eq (.wrap .u64 (.wrap .i64 (.bin .tdiv .i64 (.wrap .i64 (.v 1)) (.c (.negSucc 0))))) (.bin .shr .u64 (.wrap .u64 (.bin .shl .u64 (.wrap .u64 (.wrap .i64 (.bin .sub .i64 (.c (.ofNat 0)) (.bin .shr .i64 (.wrap .i64 (.wrap .u64 (.bin .shl .u64 (.bin .shr .u64 (.wrap .u64 (.bin .shl .u64 (.v 1) (.c (.ofNat 0)))) (.c (.ofNat 0))) (.c (.ofNat 0))))) (.c (.ofNat 0)))))) (.c (.ofNat 0)))) (.c (.ofNat 0)))) = false → False := by
  intro hL
  have m1 : env 1 % 18446744073709551616 = env 1 := by omega
  have m2 : env 2 % 18446744073709551616 = env 2 := by omega
  have m3 : (env 1).tmod (env 2) % 18446744073709551616 = (env 1).tmod (env 2) := by have := small a1 a2; omega
  simp only [e0, e1, e119, e120, e121, e122, e123, e124, IE.den, den_iff, BE.P, Bool.not_true, Bool.not_false, Int.ofNat_eq_natCast, den_and, den_tmod, s_i64, n32, n64, cut32, cut0, sgn32, sgn0, t32, t64, neg1, negA, negB, ↓mm] at h0 h1 h2 h3 h4 h5 h6 h7 hL
  try simp only [mm, ee, den_add, den_sub, den_mul, den_tdiv, den_tmod, den_and, den_or, den_xor, and_low, and_31, and_63, and_lt, or_lt, xor_lt, shr_lt a1 b1, wrap_u32, wrap_u64, wrap_i32, wrap_i64, tdiv_neg1, tmod_neg1, m1, m2, m3] at h0 h1 h2 h3 h4 h5 h6 h7 hL
  first | omega | exact absurd rfl hL | (simp at hL)
theorem lf29 (a1 : 0 ≤ env 1) (b1 : env 1 ≤ 18446744073709551615) (a2 : 0 ≤ env 2) (b2 : env 2 ≤ 18446744073709551615) (h0 : e0.den env = true) (h1 : e1.den env = true) (h2 : e119.den env = true) (h3 : e120.den env = false) (h4 : e121.den env = false) (h5 : e122.den env = false) (h6 : e123.den env = false) (h7 : e125.den env = false) : BE.den env (.eq (.wrap .u64 (.wrap .i64 (.bin .tdiv .i64 (.wrap .i64 (.v 1)) (.c (.negSucc 0))))) (.bin .shr .u64 (.wrap .u64 (.bin .shl .u64 (.wrap .u64 (.wrap .i64 (.bin .tdiv .i64 (.bin .shr .i64 (.wrap .i64 (.wrap .u64 (.bin .shl .u64 (.bin .shr .u64 (.wrap .u64 (.bin .shl .u64 (.v 1) (.c (.ofNat 0)))) (.c (.ofNat 0))) (.c (.ofNat 0))))) (.c (.ofNat 0))) (.bin .shr .i64 (.wrap .i64 (.wrap .u64 (.bin .shl .u64 (.bin .shr .u64 (.wrap .u64 (.bin .shl .u64 (.v 2) (.c (.ofNat 0)))) (.c (.ofNat 0))) (.c (.ofNat 0))))) (.c (.ofNat 0)))))) (.c (.ofNat 0)))) (.c (.ofNat 0)))) = false → False := by
  intro hL
  have m1 : env 1 % 18446744073709551616 = env 1 := by omega
  have m2 : env 2 % 18446744073709551616 = env 2 := by omega
  have m3 : (env 1).tmod (env 2) % 18446744073709551616 = (env 1).tmod (env 2) := by have := small a1 a2; omega
  simp only [e0, e1, e119, e120, e121, e122, e123, e125, IE.den, den_iff, BE.P, Bool.not_true, Bool.not_false, Int.ofNat_eq_natCast, den_and, den_tmod, s_i64, n32, n64, cut32, cut0, sgn32, sgn0, t32, t64, neg1, negA, negB, ↓mm] at h0 h1 h2 h3 h4 h5 h6 h7 hL
  try simp only [mm, ee, den_add, den_sub, den_mul, den_tdiv, den_tmod, den_and, den_or, den_xor, and_low, and_31, and_63, and_lt, or_lt, xor_lt, shr_lt a1 b1, wrap_u32, wrap_u64, wrap_i32, wrap_i64, tdiv_neg1, tmod_neg1, m1, m2, m3] at h0 h1 h2 h3 h4 h5 h6 h7 hL
  first | omega | exact absurd rfl hL | (simp at hL)
theorem lf30 (a1 : 0 ≤ env 1) (b1 : env 1 ≤ 18446744073709551615) (a2 : 0 ≤ env 2) (b2 : env 2 ≤ 18446744073709551615) (h0 : e0.den env = true) (h1 : e1.den env = true) (h2 : e119.den env = false) (h3 : e120.den env = false) (h4 : e126.den env = false) (h5 : e122.den env = false) (h6 : e123.den env = true) (h7 : e124.den env = false) : BE.den env (.eq (.wrap .u64 (.wrap .i64 (.bin .tdiv .i64 (.wrap .i64 (.v 1)) (.wrap .i64 (.v 2))))) (.bin .shr .u64 (.wrap .u64 (.bin .shl .u64 (.wrap .u64 (.wrap .i64 (.bin .sub .i64 (.c (.ofNat 0)) (.bin .shr .i64 (.wrap .i64 (.wrap .u64 (.bin .shl .u64 (.bin .shr .u64 (.wrap .u64 (.bin .shl .u64 (.v 1) (.c (.ofNat 0)))) (.c (.ofNat 0))) (.c (.ofNat 0))))) (.c (.ofNat 0)))))) (.c (.ofNat 0)))) (.c (.ofNat 0)))) = false → False := by
  intro hL
  have m1 : env 1 % 18446744073709551616 = env 1 := by omega
  have m2 : env 2 % 18446744073709551616 = env 2 := by omega
  have m3 : (env 1).tmod (env 2) % 18446744073709551616 = (env 1).tmod (env 2) := by have := small a1 a2; omega
  simp only [e0, e1, e119, e120, e126, e122, e123, e124, IE.den, den_iff, BE.P, Bool.not_true, Bool.not_false, Int.ofNat_eq_natCast, den_and, den_tmod, s_i64, n32, n64, cut32, cut0, sgn32, sgn0, t32, t64, neg1, negA, negB, ↓mm] at h0 h1 h2 h3 h4 h5 h6 h7 hL
  try simp only [mm, ee, den_add, den_sub, den_mul, den_tdiv, den_tmod, den_and, den_or, den_xor, and_low, and_31, and_63, and_lt, or_lt, xor_lt, shr_lt a1 b1, wrap_u32, wrap_u64, wrap_i32, wrap_i64, tdiv_neg1, tmod_neg1, m1, m2, m3] at h0 h1 h2 h3 h4 h5 h6 h7 hL
  first | omega | exact absurd rfl hL | (simp at hL)
theorem lf31 (a1 : 0 ≤ env 1) (b1 : env 1 ≤ 18446744073709551615) (a2 : 0 ≤ env 2) (b2 : env 2 ≤ 18446744073709551615) (h0 : e0.den env = true) (h1 : e1.den env = true) (h2 : e119.den env = false) (h3 : e120.den env = false) (h4 : e126.den env = false) (h5 : e122.den env = false) (h6 : e123.den env = false) (h7 : e125.den env = false) : BE.den env (.eq (.wrap .u64 (.wrap .i64 (.bin .tdiv .i64 (.wrap .i64 (.v 1)) (.wrap .i64 (.v 2))))) (.bin .shr .u64 (.wrap .u64 (.bin .shl .u64 (.wrap .u64 (.wrap .i64 (.bin .tdiv .i64 (.bin .shr .i64 (.wrap .i64 (.wrap .u64 (.bin .shl .u64 (.bin .shr .u64 (.wrap .u64 (.bin .shl .u64 (.v 1) (.c (.ofNat 0)))) (.c (.ofNat 0))) (.c (.ofNat 0))))) (.c (.ofNat 0))) (.bin .shr .i64 (.wrap .i64 (.wrap .u64 (.bin .shl .u64 (.bin .shr .u64 (.wrap .u64 (.bin .shl .u64 (.v 2) (.c (.ofNat 0)))) (.c (.ofNat 0))) (.c (.ofNat 0))))) (.c (.ofNat 0)))))) (.c (.ofNat 0)))) (.c (.ofNat 0)))) = false → False := by
  intro hL
  have m1 : env 1 % 18446744073709551616 = env 1 := by omega
  have m2 : env 2 % 18446744073709551616 = env 2 := by omega
  have m3 : (env 1).tmod (env 2) % 18446744073709551616 = (env 1).tmod (env 2) := by have := small a1 a2; omega
  simp only [e0, e1, e119, e120, e126, e122, e123, e125, IE.den, den_iff, BE.P, Bool.not_true, Bool.not_false, Int.ofNat_eq_natCast, den_and, den_tmod, s_i64, n32, n64, cut32, cut0, sgn32, sgn0, t32, t64, neg1, negA, negB, ↓mm] at h0 h1 h2 h3 h4 h5 h6 h7 hL
  try simp only [mm, ee, den_add, den_sub, den_mul, den_tdiv, den_tmod, den_and, den_or, den_xor, and_low, and_31, and_63, and_lt, or_lt, xor_lt, shr_lt a1 b1, wrap_u32, wrap_u64, wrap_i32, wrap_i64, tdiv_neg1, tmod_neg1, m1, m2, m3] at h0 h1 h2 h3 h4 h5 h6 h7 hL
  first | omega | exact absurd rfl hL | (simp at hL)
theorem lf32 (a1 : 0 ≤ env 1) (b1 : env 1 ≤ 18446744073709551615) (a2 : 0 ≤ env 2) (b2 : env 2 ≤ 18446744073709551615) (h0 : e0.den env = true) (h1 : e1.den env = true) (h2 : e119.den env = true) (h3 : e120.den env = false) (h4 : e122.den env = false) : BE.den env (.eq (.wrap .u64 (.bin .tdiv .u64 (.v 1) (.v 2))) (.bin .shr .u64 (.wrap .u64 (.bin .shl .u64 (.wrap .u64 (.bin .tdiv .u64 (.bin .shr .u64 (.wrap .u64 (.bin .shl .u64 (.v 1) (.c (.ofNat 0)))) (.c (.ofNat 0))) (.bin .shr .u64 (.wrap .u64 (.bin .shl .u64 (.v 2) (.c (.ofNat 0)))) (.c (.ofNat 0))))) (.c (.ofNat 0)))) (.c (.ofNat 0)))) = false → False := by
  intro hL
  have m1 : env 1 % 18446744073709551616 = env 1 := by omega
  have m2 : env 2 % 18446744073709551616 = env 2 := by omega
  have m3 : (env 1).tmod (env 2) % 18446744073709551616 = (env 1).tmod (env 2) := by have := small a1 a2; omega
  simp only [e0, e1, e119, e120, e122, IE.den, den_iff, BE.P, Bool.not_true, Bool.not_false, Int.ofNat_eq_natCast, den_and, den_tmod, s_i64, n32, n64, cut32, cut0, sgn32, sgn0, t32, t64, neg1, negA, negB, ↓mm] at h0 h1 h2 h3 h4 hL
  try simp only [mm, ee, den_add, den_sub, den_mul, den_tdiv, den_tmod, den_and, den_or, den_xor, and_low, and_31, and_63, and_lt, or_lt, xor_lt, shr_lt a1 b1, wrap_u32, wrap_u64, wrap_i32, wrap_i64, tdiv_neg1, tmod_neg1, m1, m2, m3] at h0 h1 h2 h3 h4 hL
  first | omega | exact absurd rfl hL | (simp at hL)
theorem lf33 (a1 : 0 ≤ env 1) (b1 : env 1 ≤ 18446744073709551615) (a2 : 0 ≤ env 2) (b2 : env 2 ≤ 18446744073709551615) (h0 : e0.den env = true) (h1 : e1.den env = true) (h2 : e119.den env = false) (h3 : e120.den env = false) (h4 : e122.den env = false) : BE.den env (.eq (.wrap .u64 (.bin .tdiv .u64 (.v 1) (.v 2))) (.bin .shr .u64 (.wrap .u64 (.bin .shl .u64 (.wrap .u64 (.bin .tdiv .u64 (.bin .shr .u64 (.wrap .u64 (.bin .shl .u64 (.v 1) (.c (.ofNat 0)))) (.c (.ofNat 0))) (.bin .shr .u64 (.wrap .u64 (.bin .shl .u64 (.v 2) (.c (.ofNat 0)))) (.c (.ofNat 0))))) (.c (.ofNat 0)))) (.c (.ofNat 0)))) = false → False := by
  intro hL
  have m1 : env 1 % 18446744073709551616 = env 1 := by omega
  have m2 : env 2 % 18446744073709551616 = env 2 := by omega
  have m3 : (env 1).tmod (env 2) % 18446744073709551616 = (env 1).tmod (env 2) := by have := small a1 a2; omega
  simp only [e0, e1, e119, e120, e122, IE.den, den_iff, BE.P, Bool.not_true, Bool.not_false, Int.ofNat_eq_natCast, den_and, den_tmod, s_i64, n32, n64, cut32, cut0, sgn32, sgn0, t32, t64, neg1, negA, negB, ↓mm] at h0 h1 h2 h3 h4 hL
  try simp only [mm, ee, den_add, den_sub, den_mul, den_tdiv, den_tmod, den_and, den_or, den_xor, and_low, and_31, and_63, and_lt, or_lt, xor_lt, shr_lt a1 b1, wrap_u32, wrap_u64, wrap_i32, wrap_i64, tdiv_neg1, tmod_neg1, m1, m2, m3] at h0 h1 h2 h3 h4 hL
  first | omega | exact absurd rfl hL | (simp at hL)
theorem lf34 (a1 : 0 ≤ env 1) (b1 : env 1 ≤ 18446744073709551615) (a2 : 0 ≤ env 2) (b2 : env 2 ≤ 18446744073709551615) (h0 : e0.den env = true) (h1 : e1.den env = true) (h2 : e119.den env = true) (h3 : e120.den env = false) (h4 : e122.den env = false) (h5 : e123.den env = false) (h6 : e125.den env = false) : BE.den env (.eq (.c (.ofNat 0)) (.bin .shr .u64 (.wrap .u64 (.bin .shl .u64 (.wrap .u64 (.bin .tmod .i64 (.bin .shr .i64 (.wrap .i64 (.wrap .u64 (.bin .shl .u64 (.bin .shr .u64 (.wrap .u64 (.bin .shl .u64 (.v 1) (.c (.ofNat 0)))) (.c (.ofNat 0))) (.c (.ofNat 0))))) (.c (.ofNat 0))) (.bin .shr .i64 (.wrap .i64 (.wrap .u64 (.bin .shl .u64 (.bin .shr .u64 (.wrap .u64 (.bin .shl .u64 (.v 2) (.c (.ofNat 0)))) (.c (.ofNat 0))) (.c (.ofNat 0))))) (.c (.ofNat 0))))) (.c (.ofNat 0)))) (.c (.ofNat 0)))) = false → False := by
  intro hL
  have m1 : env 1 % 18446744073709551616 = env 1 := by omega
  have m2 : env 2 % 18446744073709551616 = env 2 := by omega
  have m3 : (env 1).tmod (env 2) % 18446744073709551616 = (env 1).tmod (env 2) := by have := small a1 a2; omega
  simp only [e0, e1, e119, e120, e122, e123, e125, IE.den, den_iff, BE.P, Bool.not_true, Bool.not_false, Int.ofNat_eq_natCast, den_and, den_tmod, s_i64, n32, n64, cut32, cut0, sgn32, sgn0, t32, t64, neg1, negA, negB, ↓mm] at h0 h1 h2 h3 h4 h5 h6 hL
  try simp only [mm, ee, den_add, den_sub, den_mul, den_tdiv, den_tmod, den_and, den_or, den_xor, and_low, and_31, and_63, and_lt, or_lt, xor_lt, shr_lt a1 b1, wrap_u32, wrap_u64, wrap_i32, wrap_i64, tdiv_neg1, tmod_neg1, m1, m2, m3] at h0 h1 h2 h3 h4 h5 h6 hL
  first | omega | exact absurd rfl hL | (simp at hL)
theorem lf35 (a1 : 0 ≤ env 1) (b1 : env 1 ≤ 18446744073709551615) (a2 : 0 ≤ env 2) (b2 : env 2 ≤ 18446744073709551615) (h0 : e0.den env = true) (h1 : e1.den env = true) (h2 : e119.den env = false) (h3 : e120.den env = false) (h4 : e126.den env = false) (h5 : e122.den env = false) (h6 : e123.den env = true) : BE.den env (.eq (.wrap .u64 (.bin .tmod .i64 (.wrap .i64 (.v 1)) (.wrap .i64 (.v 2)))) (.c (.ofNat 0))) = false → False := by
  intro hL
  have m1 : env 1 % 18446744073709551616 = env 1 := by omega
  have m2 : env 2 % 18446744073709551616 = env 2 := by omega
  have m3 : (env 1).tmod (env 2) % 18446744073709551616 = (env 1).tmod (env 2) := by have := small a1 a2; omega
  simp only [e0, e1, e119, e120, e126, e122, e123, IE.den, den_iff, BE.P, Bool.not_true, Bool.not_false, Int.ofNat_eq_natCast, den_and, den_tmod, s_i64, n32, n64, cut32, cut0, sgn32, sgn0, t32, t64, neg1, negA, negB, ↓mm] at h0 h1 h2 h3 h4 h5 h6 hL
  try simp only [mm, ee, den_add, den_sub, den_mul, den_tdiv, den_tmod, den_and, den_or, den_xor, and_low, and_31, and_63, and_lt, or_lt, xor_lt, shr_lt a1 b1, wrap_u32, wrap_u64, wrap_i32, wrap_i64, tdiv_neg1, tmod_neg1, m1, m2, m3] at h0 h1 h2 h3 h4 h5 h6 hL
  first | omega | exact absurd rfl hL | (simp at hL)
theorem lf36 (a1 : 0 ≤ env 1) (b1 : env 1 ≤ 18446744073709551615) (a2 : 0 ≤ env 2) (b2 : env 2 ≤ 18446744073709551615) (h0 : e0.den env = true) (h1 : e1.den env = true) (h2 : e119.den env = false) (h3 : e120.den env = false) (h4 : e126.den env = false) (h5 : e122.den env = false) (h6 : e123.den env = false) (h7 : e125.den env = false) : BE.den env (.eq (.wrap .u64 (.bin .tmod .i64 (.wrap .i64 (.v 1)) (.wrap .i64 (.v 2)))) (.bin .shr .u64 (.wrap .u64 (.bin .shl .u64 (.wrap .u64 (.bin .tmod .i64 (.bin .shr .i64 (.wrap .i64 (.wrap .u64 (.bin .shl .u64 (.bin .shr .u64 (.wrap .u64 (.bin .shl .u64 (.v 1) (.c (.ofNat 0)))) (.c (.ofNat 0))) (.c (.ofNat 0))))) (.c (.ofNat 0))) (.bin .shr .i64 (.wrap .i64 (.wrap .u64 (.bin .shl .u64 (.bin .shr .u64 (.wrap .u64 (.bin .shl .u64 (.v 2) (.c (.ofNat 0)))) (.c (.ofNat 0))) (.c (.ofNat 0))))) (.c (.ofNat 0))))) (.c (.ofNat 0)))) (.c (.ofNat 0)))) = false → False := by
  intro hL
  have m1 : env 1 % 18446744073709551616 = env 1 := by omega
  have m2 : env 2 % 18446744073709551616 = env 2 := by omega
  have m3 : (env 1).tmod (env 2) % 18446744073709551616 = (env 1).tmod (env 2) := by have := small a1 a2; omega
  simp only [e0, e1, e119, e120, e126, e122, e123, e125, IE.den, den_iff, BE.P, Bool.not_true, Bool.not_false, Int.ofNat_eq_natCast, den_and, den_tmod, s_i64, n32, n64, cut32, cut0, sgn32, sgn0, t32, t64, neg1, negA, negB, ↓mm] at h0 h1 h2 h3 h4 h5 h6 h7 hL
  try simp only [mm, ee, den_add, den_sub, den_mul, den_tdiv, den_tmod, den_and, den_or, den_xor, and_low, and_31, and_63, and_lt, or_lt, xor_lt, shr_lt a1 b1, wrap_u32, wrap_u64, wrap_i32, wrap_i64, tdiv_neg1, tmod_neg1, m1, m2, m3] at h0 h1 h2 h3 h4 h5 h6 h7 hL
  first | omega | exact absurd rfl hL | (simp at hL)
theorem lf37 (a1 : 0 ≤ env 1) (b1 : env 1 ≤ 18446744073709551615) (a2 : 0 ≤ env 2) (b2 : env 2 ≤ 18446744073709551615) (h0 : e0.den env = true) (h1 : e1.den env = true) (h2 : e119.den env = true) (h3 : e120.den env = false) (h4 : e122.den env = false) : BE.den env (.eq (.bin .tmod .u64 (.v 1) (.v 2)) (.bin .shr .u64 (.wrap .u64 (.bin .shl .u64 (.bin .tmod .u64 (.bin .shr .u64 (.wrap .u64 (.bin .shl .u64 (.v 1) (.c (.ofNat 0)))) (.c (.ofNat 0))) (.bin .shr .u64 (.wrap .u64 (.bin .shl .u64 (.v 2) (.c (.ofNat 0)))) (.c (.ofNat 0)))) (.c (.ofNat 0)))) (.c (.ofNat 0)))) = false → False := by
  intro hL
  have m1 : env 1 % 18446744073709551616 = env 1 := by omega
  have m2 : env 2 % 18446744073709551616 = env 2 := by omega
  have m3 : (env 1).tmod (env 2) % 18446744073709551616 = (env 1).tmod (env 2) := by have := small a1 a2; omega
  simp only [e0, e1, e119, e120, e122, IE.den, den_iff, BE.P, Bool.not_true, Bool.not_false, Int.ofNat_eq_natCast, den_and, den_tmod, s_i64, n32, n64, cut32, cut0, sgn32, sgn0, t32, t64, neg1, negA, negB, ↓mm] at h0 h1 h2 h3 h4 hL
  try simp only [mm, ee, den_add, den_sub, den_mul, den_tdiv, den_tmod, den_and, den_or, den_xor, and_low, and_31, and_63, and_lt, or_lt, xor_lt, shr_lt a1 b1, wrap_u32, wrap_u64, wrap_i32, wrap_i64, tdiv_neg1, tmod_neg1, m1, m2, m3] at h0 h1 h2 h3 h4 hL
  first | omega | exact absurd rfl hL | (simp at hL)
theorem lf38 (a1 : 0 ≤ env 1) (b1 : env 1 ≤ 18446744073709551615) (a2 : 0 ≤ env 2) (b2 : env 2 ≤ 18446744073709551615) (h0 : e0.den env = true) (h1 : e1.den env = true) (h2 : e119.den env = false) (h3 : e120.den env = false) (h4 : e122.den env = false) : BE.den env (.eq (.bin .tmod .u64 (.v 1) (.v 2)) (.bin .shr .u64 (.wrap .u64 (.bin .shl .u64 (.bin .tmod .u64 (.bin .shr .u64 (.wrap .u64 (.bin .shl .u64 (.v 1) (.c (.ofNat 0)))) (.c (.ofNat 0))) (.bin .shr .u64 (.wrap .u64 (.bin .shl .u64 (.v 2) (.c (.ofNat 0)))) (.c (.ofNat 0)))) (.c (.ofNat 0)))) (.c (.ofNat 0)))) = false → False := by
  intro hL
  have m1 : env 1 % 18446744073709551616 = env 1 := by omega
  have m2 : env 2 % 18446744073709551616 = env 2 := by omega
  have m3 : (env 1).tmod (env 2) % 18446744073709551616 = (env 1).tmod (env 2) := by have := small a1 a2; omega
  simp only [e0, e1, e119, e120, e122, IE.den, den_iff, BE.P, Bool.not_true, Bool.not_false, Int.ofNat_eq_natCast, den_and, den_tmod, s_i64, n32, n64, cut32, cut0, sgn32, sgn0, t32, t64, neg1, negA, negB, ↓mm] at h0 h1 h2 h3 h4 hL
  try simp only [mm, ee, den_add, den_sub, den_mul, den_tdiv, den_tmod, den_and, den_or, den_xor, and_low, and_31, and_63, and_lt, or_lt, xor_lt, shr_lt a1 b1, wrap_u32, wrap_u64, wrap_i32, wrap_i64, tdiv_neg1, tmod_neg1, m1, m2, m3] at h0 h1 h2 h3 h4 hL
  first | omega | exact absurd rfl hL | (simp at hL)
theorem lf39 (a1 : 0 ≤ env 1) (b1 : env 1 ≤ 18446744073709551615) (a2 : 0 ≤ env 2) (b2 : env 2 ≤ 18446744073709551615) (h0 : e0.den env = true) (h1 : e1.den env = true) : BE.den env (.eq (.bin .and .u64 (.v 1) (.v 2)) (.bin .shr .u64 (.wrap .u64 (.bin .shl .u64 (.bin .and .u64 (.bin .shr .u64 (.wrap .u64 (.bin .shl .u64 (.v 1) (.c (.ofNat 0)))) (.c (.ofNat 0))) (.bin .shr .u64 (.wrap .u64 (.bin .shl .u64 (.v 2) (.c (.ofNat 0)))) (.c (.ofNat 0)))) (.c (.ofNat 0)))) (.c (.ofNat 0)))) = false → False := by
  intro hL
  have m1 : env 1 % 18446744073709551616 = env 1 := by omega
  have m2 : env 2 % 18446744073709551616 = env 2 := by omega
  have m3 : (env 1).tmod (env 2) % 18446744073709551616 = (env 1).tmod (env 2) := by have := small a1 a2; omega
  simp only [e0, e1, IE.den, den_iff, BE.P, Bool.not_true, Bool.not_false, Int.ofNat_eq_natCast, den_and, den_tmod, s_i64, n32, n64, cut32, cut0, sgn32, sgn0, t32, t64, neg1, negA, negB, ↓mm] at h0 h1 hL
  try simp only [mm, ee, den_add, den_sub, den_mul, den_tdiv, den_tmod, den_and, den_or, den_xor, and_low, and_31, and_63, and_lt, or_lt, xor_lt, shr_lt a1 b1, wrap_u32, wrap_u64, wrap_i32, wrap_i64, tdiv_neg1, tmod_neg1, m1, m2, m3] at h0 h1 hL
  first | omega | exact absurd rfl hL | (simp at hL)
theorem lf40 (a1 : 0 ≤ env 1) (b1 : env 1 ≤ 18446744073709551615) (a2 : 0 ≤ env 2) (b2 : env 2 ≤ 18446744073709551615) (h0 : e0.den env = true) (h1 : e1.den env = true) : BE.den env (.eq (.bin .or .u64 (.v 1) (.v 2)) (.bin .shr .u64 (.wrap .u64 (.bin .shl .u64 (.bin .or .u64 (.bin .shr .u64 (.wrap .u64 (.bin .shl .u64 (.v 1) (.c (.ofNat 0)))) (.c (.ofNat 0))) (.bin .shr .u64 (.wrap .u64 (.bin .shl .u64 (.v 2) (.c (.ofNat 0)))) (.c (.ofNat 0)))) (.c (.ofNat 0)))) (.c (.ofNat 0)))) = false → False := by
  intro hL
  have m1 : env 1 % 18446744073709551616 = env 1 := by omega
  have m2 : env 2 % 18446744073709551616 = env 2 := by omega
  have m3 : (env 1).tmod (env 2) % 18446744073709551616 = (env 1).tmod (env 2) := by have := small a1 a2; omega
  simp only [e0, e1, IE.den, den_iff, BE.P, Bool.not_true, Bool.not_false, Int.ofNat_eq_natCast, den_and, den_tmod, s_i64, n32, n64, cut32, cut0, sgn32, sgn0, t32, t64, neg1, negA, negB, ↓mm] at h0 h1 hL
  try simp only [mm, ee, den_add, den_sub, den_mul, den_tdiv, den_tmod, den_and, den_or, den_xor, and_low, and_31, and_63, and_lt, or_lt, xor_lt, shr_lt a1 b1, wrap_u32, wrap_u64, wrap_i32, wrap_i64, tdiv_neg1, tmod_neg1, m1, m2, m3] at h0 h1 hL
  first | omega | exact absurd rfl hL | (simp at hL)
theorem lf41 (a1 : 0 ≤ env 1) (b1 : env 1 ≤ 18446744073709551615) (a2 : 0 ≤ env 2) (b2 : env 2 ≤ 18446744073709551615) (h0 : e0.den env = true) (h1 : e1.den env = true) : BE.den env (.eq (.bin .xor .u64 (.v 1) (.v 2)) (.bin .shr .u64 (.wrap .u64 (.bin .shl .u64 (.bin .xor .u64 (.bin .shr .u64 (.wrap .u64 (.bin .shl .u64 (.v 1) (.c (.ofNat 0)))) (.c (.ofNat 0))) (.bin .shr .u64 (.wrap .u64 (.bin .shl .u64 (.v 2) (.c (.ofNat 0)))) (.c (.ofNat 0)))) (.c (.ofNat 0)))) (.c (.ofNat 0)))) = false → False := by
  intro hL
  have m1 : env 1 % 18446744073709551616 = env 1 := by omega
  have m2 : env 2 % 18446744073709551616 = env 2 := by omega
  have m3 : (env 1).tmod (env 2) % 18446744073709551616 = (env 1).tmod (env 2) := by have := small a1 a2; omega
  simp only [e0, e1, IE.den, den_iff, BE.P, Bool.not_true, Bool.not_false, Int.ofNat_eq_natCast, den_and, den_tmod, s_i64, n32, n64, cut32, cut0, sgn32, sgn0, t32, t64, neg1, negA, negB, ↓mm] at h0 h1 hL
  try simp only [mm, ee, den_add, den_sub, den_mul, den_tdiv, den_tmod, den_and, den_or, den_xor, and_low, and_31, and_63, and_lt, or_lt, xor_lt, shr_lt a1 b1, wrap_u32, wrap_u64, wrap_i32, wrap_i64, tdiv_neg1, tmod_neg1, m1, m2, m3] at h0 h1 hL
  first | omega | exact absurd rfl hL | (simp at hL)
theorem lf42 (a1 : 0 ≤ env 1) (b1 : env 1 ≤ 18446744073709551615) (a2 : 0 ≤ env 2) (b2 : env 2 ≤ 18446744073709551615) (h0 : e0.den env = true) (h1 : e1.den env = true) (h2 : e134.den env = true) (h3 : e135.den env = true) : BE.den env (.eq (.wrap .u64 (.bin .shl .u64 (.v 1) (.bin .and .i64 (.wrap .i64 (.v 2)) (.c (.ofNat 63))))) (.bin .shr .u64 (.wrap .u64 (.bin .shl .u64 (.wrap .u64 (.bin .shl .u64 (.bin .shr .u64 (.wrap .u64 (.bin .shl .u64 (.v 1) (.c (.ofNat 0)))) (.c (.ofNat 0))) (.bin .tmod .u64 (.bin .shr .u64 (.wrap .u64 (.bin .shl .u64 (.v 2) (.c (.ofNat 0)))) (.c (.ofNat 0))) (.c (.ofNat 64))))) (.c (.ofNat 0)))) (.c (.ofNat 0)))) = false → False := by
  intro hL
  have m1 : env 1 % 18446744073709551616 = env 1 := by omega
  have m2 : env 2 % 18446744073709551616 = env 2 := by omega
  have m3 : (env 1).tmod (env 2) % 18446744073709551616 = (env 1).tmod (env 2) := by have := small a1 a2; omega
  simp only [e0, e1, e134, e135, IE.den, den_iff, BE.P, Bool.not_true, Bool.not_false, Int.ofNat_eq_natCast, den_and, den_tmod, s_i64, n32, n64, cut32, cut0, sgn32, sgn0, t32, t64, neg1, negA, negB, ↓mm] at h0 h1 h2 h3 hL
  try simp only [mm, ee, den_add, den_sub, den_mul, den_tdiv, den_tmod, den_and, den_or, den_xor, and_low, and_31, and_63, and_lt, or_lt, xor_lt, shr_lt a1 b1, wrap_u32, wrap_u64, wrap_i32, wrap_i64, tdiv_neg1, tmod_neg1, m1, m2, m3] at h0 h1 h2 h3 hL
  first | omega | exact absurd rfl hL | (simp at hL)
theorem lf43 (a1 : 0 ≤ env 1) (b1 : env 1 ≤ 18446744073709551615) (a2 : 0 ≤ env 2) (b2 : env 2 ≤ 18446744073709551615) (h0 : e0.den env = true) (h1 : e1.den env = true) (h2 : e134.den env = true) (h3 : e135.den env = true) : BE.den env (.eq (.wrap .u64 (.bin .shr .i64 (.wrap .i64 (.v 1)) (.bin .and .i64 (.wrap .i64 (.v 2)) (.c (.ofNat 63))))) (.bin .shr .u64 (.wrap .u64 (.bin .shl .u64 (.wrap .u64 (.bin .shr .i64 (.bin .shr .i64 (.wrap .i64 (.wrap .u64 (.bin .shl .u64 (.bin .shr .u64 (.wrap .u64 (.bin .shl .u64 (.v 1) (.c (.ofNat 0)))) (.c (.ofNat 0))) (.c (.ofNat 0))))) (.c (.ofNat 0))) (.bin .tmod .u64 (.bin .shr .u64 (.wrap .u64 (.bin .shl .u64 (.v 2) (.c (.ofNat 0)))) (.c (.ofNat 0))) (.c (.ofNat 64))))) (.c (.ofNat 0)))) (.c (.ofNat 0)))) = false → False := by
  intro hL
  have m1 : env 1 % 18446744073709551616 = env 1 := by omega
  have m2 : env 2 % 18446744073709551616 = env 2 := by omega
  have m3 : (env 1).tmod (env 2) % 18446744073709551616 = (env 1).tmod (env 2) := by have := small a1 a2; omega
  simp only [e0, e1, e134, e135, IE.den, den_iff, BE.P, Bool.not_true, Bool.not_false, Int.ofNat_eq_natCast, den_and, den_tmod, s_i64, n32, n64, cut32, cut0, sgn32, sgn0, t32, t64, neg1, negA, negB, ↓mm] at h0 h1 h2 h3 hL
  try simp only [mm, ee, den_add, den_sub, den_mul, den_tdiv, den_tmod, den_and, den_or, den_xor, and_low, and_31, and_63, and_lt, or_lt, xor_lt, shr_lt a1 b1, wrap_u32, wrap_u64, wrap_i32, wrap_i64, tdiv_neg1, tmod_neg1, m1, m2, m3] at h0 h1 h2 h3 hL
  first | omega | exact absurd rfl hL | (simp at hL)
theorem lf44 (a1 : 0 ≤ env 1) (b1 : env 1 ≤ 18446744073709551615) (a2 : 0 ≤ env 2) (b2 : env 2 ≤ 18446744073709551615) (h0 : e0.den env = true) (h1 : e1.den env = true) (h2 : e134.den env = true) (h3 : e135.den env = true) : BE.den env (.eq (.bin .shr .u64 (.v 1) (.bin .and .i64 (.wrap .i64 (.v 2)) (.c (.ofNat 63)))) (.bin .shr .u64 (.wrap .u64 (.bin .shl .u64 (.bin .shr .u64 (.bin .shr .u64 (.wrap .u64 (.bin .shl .u64 (.v 1) (.c (.ofNat 0)))) (.c (.ofNat 0))) (.bin .tmod .u64 (.bin .shr .u64 (.wrap .u64 (.bin .shl .u64 (.v 2) (.c (.ofNat 0)))) (.c (.ofNat 0))) (.c (.ofNat 64)))) (.c (.ofNat 0)))) (.c (.ofNat 0)))) = false → False := by
  intro hL
  have m1 : env 1 % 18446744073709551616 = env 1 := by omega
  have m2 : env 2 % 18446744073709551616 = env 2 := by omega
  have m3 : (env 1).tmod (env 2) % 18446744073709551616 = (env 1).tmod (env 2) := by have := small a1 a2; omega
  simp only [e0, e1, e134, e135, IE.den, den_iff, BE.P, Bool.not_true, Bool.not_false, Int.ofNat_eq_natCast, den_and, den_tmod, s_i64, n32, n64, cut32, cut0, sgn32, sgn0, t32, t64, neg1, negA, negB, ↓mm] at h0 h1 h2 h3 hL
  try simp only [mm, ee, den_add, den_sub, den_mul, den_tdiv, den_tmod, den_and, den_or, den_xor, and_low, and_31, and_63, and_lt, or_lt, xor_lt, shr_lt a1 b1, wrap_u32, wrap_u64, wrap_i32, wrap_i64, tdiv_neg1, tmod_neg1, m1, m2, m3] at h0 h1 h2 h3 hL
  first | omega | exact absurd rfl hL | (simp at hL)
theorem no_eq {a b : IE} (h : a.den env = b.den env) : (BE.eq a b).den env = false → False := by
  intro e
  have e : ieqb (a.den env) (b.den env) = false := e
  rw [h, ieqb_eq] at e
  simp at e
theorem rotN_right (w X m : Nat) (hm : m < w) (hX : X < 2 ^ w) : Nat.lor (X / 2 ^ m) (X * 2 ^ (w - m) % 2 ^ w) = rotN w X ((w - m) % w) := by
  unfold rotN
  by_cases h0 : m = 0
  · subst h0
    rw [show (w - 0) % w = 0 by simp, show w - 0 = w by omega, Nat.mul_mod_left, Nat.pow_zero, Nat.div_one, Nat.mul_one, Nat.mod_eq_of_lt hX, Nat.div_eq_of_lt hX]
  · rw [Nat.mod_eq_of_lt (show w - m < w by omega), show w - (w - m) = m by omega]
    exact Nat.or_comm _ _
theorem lor_mod (a b n : Nat) : Nat.lor a b % 2 ^ n = Nat.lor (a % 2 ^ n) (b % 2 ^ n) := Nat.or_mod_two_pow
theorem rotl_den {x s : IE} {X m w : Nat} (hw : w ≤ 64) (hx : x.den env = X) (hX : X < 2 ^ w) (hs : s.den env = m) (hm : m < w) :
    (IE.bin .or .u64 (.wrap .u64 (.bin .shl .u64 x s)) (.bin .shr .u64 x (.wrap .u64 (.bin .sub .u64 (.c (.ofNat w)) s)))).den env % ((2 ^ w : Nat) : Int) = ((rotN w X m : Nat) : Int) := by
  have hX2 : X < 18446744073709551616 := Nat.lt_of_lt_of_le hX (Nat.pow_le_pow_right (by decide) hw)
  have h1 : (IE.wrap .u64 (.bin .shl .u64 x s)).den env = ((X * 2 ^ m % 18446744073709551616 : Nat) : Int) := by
    show wrapF .u64 ((IE.bin .shl .u64 x s).den env) = _
    rw [wrap_u64, shl_at hs (by show m ≤ 64; omega), hx, Int.natCast_emod, Int.natCast_mul]; rfl
  have h2 : (IE.wrap .u64 (.bin .sub .u64 (.c (.ofNat w)) s)).den env = ((w - m : Nat) : Int) := by
    show wrapF .u64 (isub (w : Int) (s.den env)) = _
    rw [wrap_u64, isub_eq, hs]; omega
  have h3 : (IE.bin .shr .u64 x (.wrap .u64 (.bin .sub .u64 (.c (.ofNat w)) s))).den env = ((X / 2 ^ (w - m) : Nat) : Int) := by
    rw [shr_at h2 (by show w - m ≤ 64; omega), hx]; norm_cast
  show orF .u64 ((IE.wrap .u64 (.bin .shl .u64 x s)).den env) ((IE.bin .shr .u64 x (.wrap .u64 (.bin .sub .u64 (.c (.ofNat w)) s))).den env) % _ = _
  have h4 := Nat.div_le_self X (2 ^ (w - m))
  rw [h1, h3, orF_u64 _ _ (Nat.mod_lt _ (by decide)) (by omega), ← Int.natCast_emod, lor_mod, Nat.mod_mod_of_dvd _ (show 2 ^ w ∣ 2 ^ 64 from Nat.pow_dvd_pow 2 hw), Nat.mod_eq_of_lt (show X / 2 ^ (w - m) < 2 ^ w by omega)]
  rfl
theorem rotr_den {x s : IE} {X m w : Nat} (hw : w ≤ 64) (hx : x.den env = X) (hX : X < 2 ^ w) (hs : s.den env = m) (hm : m < w) :
    (IE.bin .or .u64 (.bin .shr .u64 x s) (.wrap .u64 (.bin .shl .u64 x (.wrap .u64 (.bin .sub .u64 (.c (.ofNat w)) s))))).den env % ((2 ^ w : Nat) : Int) = ((rotN w X ((w - m) % w) : Nat) : Int) := by
  have hX2 : X < 18446744073709551616 := Nat.lt_of_lt_of_le hX (Nat.pow_le_pow_right (by decide) hw)
  have h2 : (IE.wrap .u64 (.bin .sub .u64 (.c (.ofNat w)) s)).den env = ((w - m : Nat) : Int) := by
    show wrapF .u64 (isub (w : Int) (s.den env)) = _
    rw [wrap_u64, isub_eq, hs]; omega
  have h1 : (IE.wrap .u64 (.bin .shl .u64 x (.wrap .u64 (.bin .sub .u64 (.c (.ofNat w)) s)))).den env = ((X * 2 ^ (w - m) % 18446744073709551616 : Nat) : Int) := by
    show wrapF .u64 ((IE.bin .shl .u64 x (.wrap .u64 (.bin .sub .u64 (.c (.ofNat w)) s))).den env) = _
    rw [wrap_u64, shl_at h2 (by show w - m ≤ 64; omega), hx, Int.natCast_emod, Int.natCast_mul]; rfl
  have h3 : (IE.bin .shr .u64 x s).den env = ((X / 2 ^ m : Nat) : Int) := by
    rw [shr_at hs (by show m ≤ 64; omega), hx]; norm_cast
  show orF .u64 ((IE.bin .shr .u64 x s).den env) ((IE.wrap .u64 (.bin .shl .u64 x (.wrap .u64 (.bin .sub .u64 (.c (.ofNat w)) s)))).den env) % _ = _
  have h4 := Nat.div_le_self X (2 ^ m)
  rw [h1, h3, orF_u64 _ _ (by omega) (Nat.mod_lt _ (by decide)), ← Int.natCast_emod, lor_mod, Nat.mod_mod_of_dvd _ (show 2 ^ w ∣ 2 ^ 64 from Nat.pow_dvd_pow 2 hw), Nat.mod_eq_of_lt (show X / 2 ^ m < 2 ^ w by omega), rotN_right w X m hm hX]
abbrev low : IE := .c (.ofNat 4294967295)
abbrev c32 (k : Nat) : IE := .bin .shr .u64 (.wrap .u64 (.bin .shl .u64 (.v k) (.c (.ofNat 32)))) (.c (.ofNat 32))
abbrev c0 (k : Nat) : IE := .bin .shr .u64 (.wrap .u64 (.bin .shl .u64 (.v k) (.c (.ofNat 0)))) (.c (.ofNat 0))
abbrev n32i : IE := .bin .and .i64 (.wrap .i64 (.bin .and .u64 (.bin .and .u64 (.v 2) low) low)) (.c (.ofNat 31))
abbrev n64i : IE := .bin .and .i64 (.wrap .i64 (.v 2)) (.c (.ofNat 63))
theorem c32_den (k : Nat) : (c32 k).den env = (((env k % 4294967296).toNat : Nat) : Int) := by
  have : (c32 k).den env = env k % 4294967296 := cut32 _
  rw [this]; omega
theorem c0_den (k : Nat) : (c0 k).den env = (((env k % 18446744073709551616).toNat : Nat) : Int) := by
  have : (c0 k).den env = env k % 18446744073709551616 := cut0 _
  rw [this]; omega
theorem n32i_den {m : Nat} (h1 : env 2 % 32 = m) : n32i.den env = m := by
  have : n32i.den env = andF .u64 (env 2) ((4294967295 : Nat) : Int) % 32 := n32 _
  rw [this, and_low]; omega
theorem n64i_den {m : Nat} (h1 : env 2 % 64 = m) : n64i.den env = m := by
  have : n64i.den env = env 2 % 64 := n64 _
  rw [this, h1]
theorem p32_den {m : Nat} (h1 : env 2 % 32 = m) : (IE.bin .and .u64 (.wrap .u64 n32i) (.c (.ofNat 31))).den env = m := by
  have := n32i_den h1
  show andF .u64 (wrapF .u64 (n32i.den env)) ((31 : Nat) : Int) = m
  rw [and_31, wrap_u64, this]; omega
theorem q32_den {m : Nat} (h1 : env 2 % 32 = m) : (IE.bin .and .u64 (.wrap .u64 (.wrap .i64 (.bin .sub .i64 (.c (.ofNat 0)) n32i))) (.c (.ofNat 31))).den env = ((32 - m) % 32 : Nat) := by
  have := n32i_den h1
  show andF .u64 (wrapF .u64 (wrapF .i64 (isub 0 (n32i.den env)))) ((31 : Nat) : Int) = _
  rw [and_31, wrap_u64, wrap_i64, isub_eq, this]; omega
theorem p64_den {m : Nat} (h1 : env 2 % 64 = m) : (IE.bin .and .u64 (.wrap .u64 n64i) (.c (.ofNat 63))).den env = m := by
  have := n64i_den h1
  show andF .u64 (wrapF .u64 (n64i.den env)) ((63 : Nat) : Int) = m
  rw [and_63, wrap_u64, this]; omega
theorem q64_den {m : Nat} (h1 : env 2 % 64 = m) : (IE.bin .and .u64 (.wrap .u64 (.wrap .i64 (.bin .sub .i64 (.c (.ofNat 0)) n64i))) (.c (.ofNat 63))).den env = ((64 - m) % 64 : Nat) := by
  have := n64i_den h1
  show andF .u64 (wrapF .u64 (wrapF .i64 (isub 0 (n64i.den env)))) ((63 : Nat) : Int) = _
  rw [and_63, wrap_u64, wrap_i64, isub_eq, this]; omega
theorem r32_den {m : Nat} (h1 : env 2 % 32 = m) : (IE.bin .tmod .u64 (c32 2) (.c (.ofNat 32))).den env = m := by
  show ((c32 2).den env).tmod ((32 : Nat) : Int) = m
  have : (c32 2).den env = env 2 % 4294967296 := cut32 _
  rw [this, t32, h1]
theorem r64_den {m : Nat} (h1 : env 2 % 64 = m) : (IE.bin .tmod .u64 (c0 2) (.c (.ofNat 64))).den env = m := by
  show ((c0 2).den env).tmod ((64 : Nat) : Int) = m
  have : (c0 2).den env = env 2 % 18446744073709551616 := cut0 _
  rw [this, t64, h1]
theorem x32_den : (IE.wrap .u32 (.bin .and .u64 (.bin .and .u64 (.v 1) low) low)).den env = (((env 1 % 4294967296).toNat : Nat) : Int) := by
  show wrapF .u32 (andF .u64 (andF .u64 (env 1) ((4294967295 : Nat) : Int)) ((4294967295 : Nat) : Int)) = _
  rw [wrap_u32, and_low, and_low]; omega
theorem low_den {a : IE} {X : Nat} (h : a.den env = X) (hX : X < 4294967296) : (IE.bin .and .u64 (.wrap .u64 a) low).den env = X := by
  show andF .u64 (wrapF .u64 (a.den env)) ((4294967295 : Nat) : Int) = _
  rw [and_low, wrap_u64, h]; omega
theorem m32 : ∃ m : Nat, env 2 % 32 = m ∧ m < 32 := ⟨(env 2 % 32).toNat, by omega, by omega⟩
theorem m64 : ∃ m : Nat, env 2 % 64 = m ∧ m < 64 := ⟨(env 2 % 64).toNat, by omega, by omega⟩
theorem v1_den (a1 : 0 ≤ env 1) (b1 : env 1 ≤ 18446744073709551615) : (IE.v 1).den env = (((env 1 % 18446744073709551616).toNat : Nat) : Int) := by
  show env 1 = _
  omega
theorem lf23 (a1 : 0 ≤ env 1) (b1 : env 1 ≤ 18446744073709551615) (a2 : 0 ≤ env 2) (b2 : env 2 ≤ 18446744073709551615) (h0 : e0.den env = true) (h1 : e1.den env = true) (h2 : e106.den env = true) (h3 : e107.den env = true) (h4 : e102.den env = true) (h5 : e108.den env = true) : BE.den env (.eq (.bin .and .u64 (.wrap .u64 (.bin .or .u32 (.wrap .u32 (.bin .shl .u32 (.wrap .u32 (.bin .and .u64 (.bin .and .u64 (.v 1) (.c (.ofNat 4294967295))) (.c (.ofNat 4294967295)))) (.bin .and .u64 (.wrap .u64 (.bin .and .i64 (.wrap .i64 (.bin .and .u64 (.bin .and .u64 (.v 2) (.c (.ofNat 4294967295))) (.c (.ofNat 4294967295)))) (.c (.ofNat 31)))) (.c (.ofNat 31))))) (.bin .shr .u32 (.wrap .u32 (.bin .and .u64 (.bin .and .u64 (.v 1) (.c (.ofNat 4294967295))) (.c (.ofNat 4294967295)))) (.wrap .u64 (.bin .sub .u64 (.c (.ofNat 32)) (.bin .and .u64 (.wrap .u64 (.bin .and .i64 (.wrap .i64 (.bin .and .u64 (.bin .and .u64 (.v 2) (.c (.ofNat 4294967295))) (.c (.ofNat 4294967295)))) (.c (.ofNat 31)))) (.c (.ofNat 31)))))))) (.c (.ofNat 4294967295))) (.bin .shr .u64 (.wrap .u64 (.bin .shl .u64 (.bin .or .u64 (.wrap .u64 (.bin .shl .u64 (.bin .shr .u64 (.wrap .u64 (.bin .shl .u64 (.v 1) (.c (.ofNat 32)))) (.c (.ofNat 32))) (.bin .tmod .u64 (.bin .shr .u64 (.wrap .u64 (.bin .shl .u64 (.v 2) (.c (.ofNat 32)))) (.c (.ofNat 32))) (.c (.ofNat 32))))) (.bin .shr .u64 (.bin .shr .u64 (.wrap .u64 (.bin .shl .u64 (.v 1) (.c (.ofNat 32)))) (.c (.ofNat 32))) (.wrap .u64 (.bin .sub .u64 (.c (.ofNat 32)) (.bin .tmod .u64 (.bin .shr .u64 (.wrap .u64 (.bin .shl .u64 (.v 2) (.c (.ofNat 32)))) (.c (.ofNat 32))) (.c (.ofNat 32))))))) (.c (.ofNat 32)))) (.c (.ofNat 32)))) = false → False := by
  obtain ⟨m, hm, hl⟩ := m32 (env := env)
  have hX : (env 1 % 4294967296).toNat < 2 ^ 32 := by omega
  refine no_eq ((low_den (rot32_den x32_den hX (p32_den hm) hl) (rotN_lt 32 _ _ (by omega) hX)).trans ?_)
  exact ((cut32 _).trans (rotl_den (w := 32) (by omega) (c32_den 1) hX (r32_den hm) hl)).symm
theorem lf24 (a1 : 0 ≤ env 1) (b1 : env 1 ≤ 18446744073709551615) (a2 : 0 ≤ env 2) (b2 : env 2 ≤ 18446744073709551615) (h0 : e0.den env = true) (h1 : e1.den env = true) (h2 : e110.den env = true) (h3 : e111.den env = true) (h4 : e102.den env = true) (h5 : e108.den env = true) : BE.den env (.eq (.bin .and .u64 (.wrap .u64 (.bin .or .u32 (.wrap .u32 (.bin .shl .u32 (.wrap .u32 (.bin .and .u64 (.bin .and .u64 (.v 1) (.c (.ofNat 4294967295))) (.c (.ofNat 4294967295)))) (.bin .and .u64 (.wrap .u64 (.wrap .i64 (.bin .sub .i64 (.c (.ofNat 0)) (.bin .and .i64 (.wrap .i64 (.bin .and .u64 (.bin .and .u64 (.v 2) (.c (.ofNat 4294967295))) (.c (.ofNat 4294967295)))) (.c (.ofNat 31)))))) (.c (.ofNat 31))))) (.bin .shr .u32 (.wrap .u32 (.bin .and .u64 (.bin .and .u64 (.v 1) (.c (.ofNat 4294967295))) (.c (.ofNat 4294967295)))) (.wrap .u64 (.bin .sub .u64 (.c (.ofNat 32)) (.bin .and .u64 (.wrap .u64 (.wrap .i64 (.bin .sub .i64 (.c (.ofNat 0)) (.bin .and .i64 (.wrap .i64 (.bin .and .u64 (.bin .and .u64 (.v 2) (.c (.ofNat 4294967295))) (.c (.ofNat 4294967295)))) (.c (.ofNat 31)))))) (.c (.ofNat 31)))))))) (.c (.ofNat 4294967295))) (.bin .shr .u64 (.wrap .u64 (.bin .shl .u64 (.bin .or .u64 (.bin .shr .u64 (.bin .shr .u64 (.wrap .u64 (.bin .shl .u64 (.v 1) (.c (.ofNat 32)))) (.c (.ofNat 32))) (.bin .tmod .u64 (.bin .shr .u64 (.wrap .u64 (.bin .shl .u64 (.v 2) (.c (.ofNat 32)))) (.c (.ofNat 32))) (.c (.ofNat 32)))) (.wrap .u64 (.bin .shl .u64 (.bin .shr .u64 (.wrap .u64 (.bin .shl .u64 (.v 1) (.c (.ofNat 32)))) (.c (.ofNat 32))) (.wrap .u64 (.bin .sub .u64 (.c (.ofNat 32)) (.bin .tmod .u64 (.bin .shr .u64 (.wrap .u64 (.bin .shl .u64 (.v 2) (.c (.ofNat 32)))) (.c (.ofNat 32))) (.c (.ofNat 32)))))))) (.c (.ofNat 32)))) (.c (.ofNat 32)))) = false → False := by
  obtain ⟨m, hm, hl⟩ := m32 (env := env)
  have hX : (env 1 % 4294967296).toNat < 2 ^ 32 := by omega
  refine no_eq ((low_den (rot32_den x32_den hX (q32_den hm) (Nat.mod_lt _ (by decide))) (rotN_lt 32 _ _ (by omega) hX)).trans ?_)
  exact ((cut32 _).trans (rotr_den (w := 32) (by omega) (c32_den 1) hX (r32_den hm) hl)).symm
theorem lf45 (a1 : 0 ≤ env 1) (b1 : env 1 ≤ 18446744073709551615) (a2 : 0 ≤ env 2) (b2 : env 2 ≤ 18446744073709551615) (h0 : e0.den env = true) (h1 : e1.den env = true) (h2 : e139.den env = true) (h3 : e140.den env = true) (h4 : e135.den env = true) (h5 : e141.den env = true) : BE.den env (.eq (.bin .or .u64 (.wrap .u64 (.bin .shl .u64 (.v 1) (.bin .and .u64 (.wrap .u64 (.bin .and .i64 (.wrap .i64 (.v 2)) (.c (.ofNat 63)))) (.c (.ofNat 63))))) (.bin .shr .u64 (.v 1) (.wrap .u64 (.bin .sub .u64 (.c (.ofNat 64)) (.bin .and .u64 (.wrap .u64 (.bin .and .i64 (.wrap .i64 (.v 2)) (.c (.ofNat 63)))) (.c (.ofNat 63))))))) (.bin .shr .u64 (.wrap .u64 (.bin .shl .u64 (.bin .or .u64 (.wrap .u64 (.bin .shl .u64 (.bin .shr .u64 (.wrap .u64 (.bin .shl .u64 (.v 1) (.c (.ofNat 0)))) (.c (.ofNat 0))) (.bin .tmod .u64 (.bin .shr .u64 (.wrap .u64 (.bin .shl .u64 (.v 2) (.c (.ofNat 0)))) (.c (.ofNat 0))) (.c (.ofNat 64))))) (.bin .shr .u64 (.bin .shr .u64 (.wrap .u64 (.bin .shl .u64 (.v 1) (.c (.ofNat 0)))) (.c (.ofNat 0))) (.wrap .u64 (.bin .sub .u64 (.c (.ofNat 64)) (.bin .tmod .u64 (.bin .shr .u64 (.wrap .u64 (.bin .shl .u64 (.v 2) (.c (.ofNat 0)))) (.c (.ofNat 0))) (.c (.ofNat 64))))))) (.c (.ofNat 0)))) (.c (.ofNat 0)))) = false → False := by
  obtain ⟨m, hm, hl⟩ := m64 (env := env)
  have hX : (env 1 % 18446744073709551616).toNat < 2 ^ 64 := by omega
  refine no_eq ((rot64_den (v1_den a1 b1) hX (p64_den hm) hl).trans ?_)
  exact ((cut0 _).trans (rotl_den (w := 64) (by omega) (c0_den 1) hX (r64_den hm) hl)).symm
theorem lf46 (a1 : 0 ≤ env 1) (b1 : env 1 ≤ 18446744073709551615) (a2 : 0 ≤ env 2) (b2 : env 2 ≤ 18446744073709551615) (h0 : e0.den env = true) (h1 : e1.den env = true) (h2 : e143.den env = true) (h3 : e144.den env = true) (h4 : e135.den env = true) (h5 : e141.den env = true) : BE.den env (.eq (.bin .or .u64 (.wrap .u64 (.bin .shl .u64 (.v 1) (.bin .and .u64 (.wrap .u64 (.wrap .i64 (.bin .sub .i64 (.c (.ofNat 0)) (.bin .and .i64 (.wrap .i64 (.v 2)) (.c (.ofNat 63)))))) (.c (.ofNat 63))))) (.bin .shr .u64 (.v 1) (.wrap .u64 (.bin .sub .u64 (.c (.ofNat 64)) (.bin .and .u64 (.wrap .u64 (.wrap .i64 (.bin .sub .i64 (.c (.ofNat 0)) (.bin .and .i64 (.wrap .i64 (.v 2)) (.c (.ofNat 63)))))) (.c (.ofNat 63))))))) (.bin .shr .u64 (.wrap .u64 (.bin .shl .u64 (.bin .or .u64 (.bin .shr .u64 (.bin .shr .u64 (.wrap .u64 (.bin .shl .u64 (.v 1) (.c (.ofNat 0)))) (.c (.ofNat 0))) (.bin .tmod .u64 (.bin .shr .u64 (.wrap .u64 (.bin .shl .u64 (.v 2) (.c (.ofNat 0)))) (.c (.ofNat 0))) (.c (.ofNat 64)))) (.wrap .u64 (.bin .shl .u64 (.bin .shr .u64 (.wrap .u64 (.bin .shl .u64 (.v 1) (.c (.ofNat 0)))) (.c (.ofNat 0))) (.wrap .u64 (.bin .sub .u64 (.c (.ofNat 64)) (.bin .tmod .u64 (.bin .shr .u64 (.wrap .u64 (.bin .shl .u64 (.v 2) (.c (.ofNat 0)))) (.c (.ofNat 0))) (.c (.ofNat 64)))))))) (.c (.ofNat 0)))) (.c (.ofNat 0)))) = false → False := by
  obtain ⟨m, hm, hl⟩ := m64 (env := env)
  have hX : (env 1 % 18446744073709551616).toNat < 2 ^ 64 := by omega
  refine no_eq ((rot64_den (v1_den a1 b1) hX (q64_den hm) (Nat.mod_lt _ (by decide))).trans ?_)
  exact ((cut0 _).trans (rotr_den (w := 64) (by omega) (c0_den 1) hX (r64_den hm) hl)).symm
end
set_option maxRecDepth 100000 in
set_option maxHeartbeats 4000000 in
theorem holds {env : Nat → Int} (a0 : 0 ≤ env 0) (b0 : env 0 ≤ 255) (a1 : 0 ≤ env 1) (b1 : env 1 ≤ 18446744073709551615) (a2 : 0 ≤ env 2) (b2 : env 2 ≤ 18446744073709551615) : dt.holds env := by
  have e70 : (wrapF .i64 (env 0)).tmod ((70 : Nat) : Int) = env 0 % 70 := by
    rw [wrap_i64, Int.tmod_eq_emod_of_nonneg (by omega)]; omega
  exact holds_fork
   (fun h0 => holds_fork
    (fun h1 => holds_fork
     (fun h2 => holds_fork
      (fun h3 => holds_fork
       (fun h4 => holds_true)
       (fun h4 => holds_out (o0 a1 b1 a2 b2 h0 h1 h3 h4)))
      (fun h3 => holds_fork
       (fun h4 => holds_out (o1 a1 b1 a2 b2 h0 h1 h3 h4))
       (fun h4 => holds_true)))
     (fun h2 => holds_fork
      (fun h3 => holds_fork
       (fun h4 => holds_fork
        (fun h5 => holds_true)
        (fun h5 => holds_out (o2 a1 b1 a2 b2 h0 h1 h4 h5)))
       (fun h4 => holds_fork
        (fun h5 => holds_out (o3 a1 b1 a2 b2 h0 h1 h4 h5))
        (fun h5 => holds_true)))
      (fun h3 => holds_fork
       (fun h4 => holds_fork
        (fun h5 => holds_fork
         (fun h6 => holds_true)
         (fun h6 => holds_out (o4 a1 b1 a2 b2 h0 h1 h5 h6)))
        (fun h5 => holds_fork
         (fun h6 => holds_out (o5 a1 b1 a2 b2 h0 h1 h5 h6))
         (fun h6 => holds_true)))
       (fun h4 => holds_fork
        (fun h5 => holds_fork
         (fun h6 => holds_fork
          (fun h7 => holds_true)
          (fun h7 => holds_out (o6 a1 b1 a2 b2 h0 h1 h6 h7)))
         (fun h6 => holds_fork
          (fun h7 => holds_out (o7 a1 b1 a2 b2 h0 h1 h6 h7))
          (fun h7 => holds_true)))
        (fun h5 => holds_fork
         (fun h6 => holds_fork
          (fun h7 => holds_fork
           (fun h8 => holds_true)
           (fun h8 => holds_out (o8 a1 b1 a2 b2 h0 h1 h7 h8)))
          (fun h7 => holds_fork
           (fun h8 => holds_out (o9 a1 b1 a2 b2 h0 h1 h7 h8))
           (fun h8 => holds_true)))
         (fun h6 => holds_fork
          (fun h7 => holds_fork
           (fun h8 => holds_fork
            (fun h9 => holds_true)
            (fun h9 => holds_out (o10 a1 b1 a2 b2 h0 h1 h8 h9)))
           (fun h8 => holds_fork
            (fun h9 => holds_out (o11 a1 b1 a2 b2 h0 h1 h8 h9))
            (fun h9 => holds_true)))
          (fun h7 => holds_fork
           (fun h8 => holds_fork
            (fun h9 => holds_fork
             (fun h10 => holds_true)
             (fun h10 => holds_out (o12 a1 b1 a2 b2 h0 h1 h9 h10)))
            (fun h9 => holds_fork
             (fun h10 => holds_out (o13 a1 b1 a2 b2 h0 h1 h9 h10))
             (fun h10 => holds_true)))
           (fun h8 => holds_fork
            (fun h9 => holds_fork
             (fun h10 => holds_fork
              (fun h11 => holds_true)
              (fun h11 => holds_out (o14 a1 b1 a2 b2 h0 h1 h10 h11)))
             (fun h10 => holds_fork
              (fun h11 => holds_out (o15 a1 b1 a2 b2 h0 h1 h10 h11))
              (fun h11 => holds_true)))
            (fun h9 => holds_fork
             (fun h10 => holds_fork
              (fun h11 => holds_fork
               (fun h12 => holds_true)
               (fun h12 => holds_out (o16 a1 b1 a2 b2 h0 h1 h11 h12)))
              (fun h11 => holds_fork
               (fun h12 => holds_out (o17 a1 b1 a2 b2 h0 h1 h11 h12))
               (fun h12 => holds_true)))
             (fun h10 => holds_fork
              (fun h11 => holds_fork
               (fun h12 => holds_fork
                (fun h13 => holds_true)
                (fun h13 => holds_out (o18 a1 b1 a2 b2 h0 h1 h12 h13)))
               (fun h12 => holds_fork
                (fun h13 => holds_out (o19 a1 b1 a2 b2 h0 h1 h12 h13))
                (fun h13 => holds_true)))
              (fun h11 => holds_fork
               (fun h12 => holds_fork
                (fun h13 => holds_fork
                 (fun h14 => holds_true)
                 (fun h14 => holds_out (o20 a1 b1 a2 b2 h0 h1 h13 h14)))
                (fun h13 => holds_fork
                 (fun h14 => holds_out (o21 a1 b1 a2 b2 h0 h1 h13 h14))
                 (fun h14 => holds_true)))
               (fun h12 => holds_fork
                (fun h13 => holds_fork
                 (fun h14 => holds_true)
                 (fun h14 => holds_true))
                (fun h13 => holds_fork
                 (fun h14 => holds_fork
                  (fun h15 => holds_fork
                   (fun h16 => holds_true)
                   (fun h16 => holds_out (o22 a1 b1 a2 b2 h0 h1 h15 h16)))
                  (fun h15 => holds_fork
                   (fun h16 => holds_out (o23 a1 b1 a2 b2 h0 h1 h15 h16))
                   (fun h16 => holds_true)))
                 (fun h14 => holds_fork
                  (fun h15 => holds_fork
                   (fun h16 => holds_fork
                    (fun h17 => holds_true)
                    (fun h17 => holds_out (o24 a1 b1 a2 b2 h0 h1 h16 h17)))
                   (fun h16 => holds_fork
                    (fun h17 => holds_out (o25 a1 b1 a2 b2 h0 h1 h16 h17))
                    (fun h17 => holds_true)))
                  (fun h15 => holds_fork
                   (fun h16 => holds_fork
                    (fun h17 => holds_fork
                     (fun h18 => holds_true)
                     (fun h18 => holds_out (o26 a1 b1 a2 b2 h0 h1 h17 h18)))
                    (fun h17 => holds_fork
                     (fun h18 => holds_out (o27 a1 b1 a2 b2 h0 h1 h17 h18))
                     (fun h18 => holds_true)))
                   (fun h16 => holds_fork
                    (fun h17 => holds_fork
                     (fun h18 => holds_fork
                      (fun h19 => holds_true)
                      (fun h19 => holds_out (o28 a1 b1 a2 b2 h0 h1 h18 h19)))
                     (fun h18 => holds_fork
                      (fun h19 => holds_out (o29 a1 b1 a2 b2 h0 h1 h18 h19))
                      (fun h19 => holds_true)))
                    (fun h17 => holds_fork
                     (fun h18 => holds_fork
                      (fun h19 => holds_fork
                       (fun h20 => holds_true)
                       (fun h20 => holds_out (o30 a1 b1 a2 b2 h0 h1 h19 h20)))
                      (fun h19 => holds_fork
                       (fun h20 => holds_out (o31 a1 b1 a2 b2 h0 h1 h19 h20))
                       (fun h20 => holds_true)))
                     (fun h18 => holds_fork
                      (fun h19 => holds_fork
                       (fun h20 => holds_fork
                        (fun h21 => holds_true)
                        (fun h21 => holds_out (o32 a1 b1 a2 b2 h0 h1 h20 h21)))
                       (fun h20 => holds_fork
                        (fun h21 => holds_out (o33 a1 b1 a2 b2 h0 h1 h20 h21))
                        (fun h21 => holds_true)))
                      (fun h19 => holds_fork
                       (fun h20 => holds_fork
                        (fun h21 => holds_fork
                         (fun h22 => holds_true)
                         (fun h22 => holds_out (o34 a1 b1 a2 b2 h0 h1 h21 h22)))
                        (fun h21 => holds_fork
                         (fun h22 => holds_out (o35 a1 b1 a2 b2 h0 h1 h21 h22))
                         (fun h22 => holds_true)))
                       (fun h20 => holds_fork
                        (fun h21 => holds_fork
                         (fun h22 => holds_fork
                          (fun h23 => holds_true)
                          (fun h23 => holds_out (o36 a1 b1 a2 b2 h0 h1 h22 h23)))
                         (fun h22 => holds_fork
                          (fun h23 => holds_out (o37 a1 b1 a2 b2 h0 h1 h22 h23))
                          (fun h23 => holds_true)))
                        (fun h21 => holds_fork
                         (fun h22 => holds_fork
                          (fun h23 => holds_fork
                           (fun h24 => holds_true)
                           (fun h24 => holds_out (o38 a1 b1 a2 b2 h0 h1 h23 h24)))
                          (fun h23 => holds_fork
                           (fun h24 => holds_out (o39 a1 b1 a2 b2 h0 h1 h23 h24))
                           (fun h24 => holds_true)))
                         (fun h22 => holds_fork
                          (fun h23 => holds_fork
                           (fun h24 => holds_fork
                            (fun h25 => holds_true)
                            (fun h25 => holds_out (o40 a1 b1 a2 b2 h0 h1 h24 h25)))
                           (fun h24 => holds_fork
                            (fun h25 => holds_out (o41 a1 b1 a2 b2 h0 h1 h24 h25))
                            (fun h25 => holds_true)))
                          (fun h23 => holds_fork
                           (fun h24 => holds_true)
                           (fun h24 => holds_fork
                            (fun h25 => holds_true)
                            (fun h25 => holds_fork
                             (fun h26 => holds_true)
                             (fun h26 => holds_fork
                              (fun h27 => holds_true)
                              (fun h27 => holds_fork
                               (fun h28 => holds_true)
                               (fun h28 => holds_fork
                                (fun h29 => holds_true)
                                (fun h29 => holds_fork
                                 (fun h30 => holds_true)
                                 (fun h30 => holds_fork
                                  (fun h31 => holds_true)
                                  (fun h31 => holds_fork
                                   (fun h32 => holds_true)
                                   (fun h32 => holds_fork
                                    (fun h33 => holds_true)
                                    (fun h33 => holds_fork
                                     (fun h34 => holds_true)
                                     (fun h34 => holds_fork
                                      (fun h35 => holds_true)
                                      (fun h35 => holds_fork
                                       (fun h36 => holds_leaf (leaf_of (lf0 a1 b1 a2 b2 h0 h1)))
                                       (fun h36 => holds_fork
                                        (fun h37 => holds_leaf (leaf_of (lf1 a1 b1 a2 b2 h0 h1)))
                                        (fun h37 => holds_fork
                                         (fun h38 => holds_leaf (leaf_of (lf2 a1 b1 a2 b2 h0 h1)))
                                         (fun h38 => holds_fork
                                          (fun h39 => holds_leaf (leaf_of (lf3 a1 b1 a2 b2 h0 h1)))
                                          (fun h39 => holds_fork
                                           (fun h40 => holds_leaf (leaf_of (lf4 a1 b1 a2 b2 h0 h1)))
                                           (fun h40 => holds_fork
                                            (fun h41 => holds_leaf (leaf_of (lf5 a1 b1 a2 b2 h0 h1)))
                                            (fun h41 => holds_fork
                                             (fun h42 => holds_fork
                                              (fun h43 => holds_fork
                                               (fun h44 => holds_fork
                                                (fun h45 => holds_true)
                                                (fun h45 => holds_fork
                                                 (fun h46 => holds_fork
                                                  (fun h47 => holds_true)
                                                  (fun h47 => holds_out (o42 a1 b1 a2 b2 h0 h1 h43 h44 h45 h46 h47)))
                                                 (fun h46 => holds_fork
                                                  (fun h47 => holds_out (o43 a1 b1 a2 b2 h0 h1 h43 h44 h45 h46 h47))
                                                  (fun h47 => holds_out (o44 a1 b1 a2 b2 h0 h1 h43 h44 h45 h46 h47)))))
                                               (fun h44 => holds_fork
                                                (fun h45 => holds_fork
                                                 (fun h46 => holds_true)
                                                 (fun h46 => holds_fork
                                                  (fun h47 => holds_fork
                                                   (fun h48 => holds_true)
                                                   (fun h48 => holds_out (o45 a1 b1 a2 b2 h0 h1 h43 h44 h45 h46 h47 h48)))
                                                  (fun h47 => holds_fork
                                                   (fun h48 => holds_out (o46 a1 b1 a2 b2 h0 h1 h43 h44 h45 h46 h47 h48))
                                                   (fun h48 => holds_out (o47 a1 b1 a2 b2 h0 h1 h43 h44 h45 h46 h47 h48)))))
                                                (fun h45 => holds_fork
                                                 (fun h46 => holds_out (o48 a1 b1 a2 b2 h0 h1 h43 h44 h45 h46))
                                                 (fun h46 => holds_fork
                                                  (fun h47 => holds_fork
                                                   (fun h48 => holds_out (o49 a1 b1 a2 b2 h0 h1 h43 h44 h45 h46 h47 h48))
                                                   (fun h48 => holds_leaf (leaf_of (lf6 a1 b1 a2 b2 h0 h1 h43 h44 h45 h46 h47 h48))))
                                                  (fun h47 => holds_fork
                                                   (fun h48 => holds_out (o50 a1 b1 a2 b2 h0 h1 h43 h44 h45 h46 h47 h48))
                                                   (fun h48 => holds_leaf (leaf_of (lf7 a1 b1 a2 b2 h0 h1 h43 h44 h45 h46 h47 h48))))))))
                                              (fun h43 => holds_fork
                                               (fun h44 => holds_fork
                                                (fun h45 => holds_true)
                                                (fun h45 => holds_fork
                                                 (fun h46 => holds_fork
                                                  (fun h47 => holds_true)
                                                  (fun h47 => holds_out (o51 a1 b1 a2 b2 h0 h1 h43 h44 h45 h46 h47)))
                                                 (fun h46 => holds_fork
                                                  (fun h47 => holds_out (o52 a1 b1 a2 b2 h0 h1 h43 h44 h45 h46 h47))
                                                  (fun h47 => holds_out (o53 a1 b1 a2 b2 h0 h1 h43 h44 h45 h46 h47)))))
                                               (fun h44 => holds_fork
                                                (fun h45 => holds_out (o54 a1 b1 a2 b2 h0 h1 h43 h44 h45))
                                                (fun h45 => holds_fork
                                                 (fun h46 => holds_out (o55 a1 b1 a2 b2 h0 h1 h43 h44 h45 h46))
                                                 (fun h46 => holds_fork
                                                  (fun h47 => holds_fork
                                                   (fun h48 => holds_out (o56 a1 b1 a2 b2 h0 h1 h43 h44 h45 h46 h47 h48))
                                                   (fun h48 => holds_leaf (leaf_of (lf8 a1 b1 a2 b2 h0 h1 h43 h44 h45 h46 h47 h48))))
                                                  (fun h47 => holds_fork
                                                   (fun h48 => holds_out (o57 a1 b1 a2 b2 h0 h1 h43 h44 h45 h46 h47 h48))
                                                   (fun h48 => holds_leaf (leaf_of (lf9 a1 b1 a2 b2 h0 h1 h43 h44 h45 h46 h47 h48)))))))))
                                             (fun h42 => holds_fork
                                              (fun h43 => holds_fork
                                               (fun h44 => holds_fork
                                                (fun h45 => holds_fork
                                                 (fun h46 => holds_true)
                                                 (fun h46 => holds_out (o58 a1 b1 a2 b2 h0 h1 h44 h45 h46)))
                                                (fun h45 => holds_fork
                                                 (fun h46 => holds_out (o59 a1 b1 a2 b2 h0 h1 h44 h45 h46))
                                                 (fun h46 => holds_leaf (leaf_of (lf10 a1 b1 a2 b2 h0 h1 h44 h45 h46)))))
                                               (fun h44 => holds_fork
                                                (fun h45 => holds_fork
                                                 (fun h46 => holds_true)
                                                 (fun h46 => holds_out (o60 a1 b1 a2 b2 h0 h1 h44 h45 h46)))
                                                (fun h45 => holds_fork
                                                 (fun h46 => holds_out (o61 a1 b1 a2 b2 h0 h1 h44 h45 h46))
                                                 (fun h46 => holds_leaf (leaf_of (lf11 a1 b1 a2 b2 h0 h1 h44 h45 h46))))))
                                              (fun h43 => holds_fork
                                               (fun h44 => holds_fork
                                                (fun h45 => holds_fork
                                                 (fun h46 => holds_fork
                                                  (fun h47 => holds_true)
                                                  (fun h47 => holds_fork
                                                   (fun h48 => holds_out (o62 a1 b1 a2 b2 h0 h1 h45 h46 h47 h48))
                                                   (fun h48 => holds_fork
                                                    (fun h49 => holds_out (o43 a1 b1 a2 b2 h0 h1 h45 h46 h47 h48 h49))
                                                    (fun h49 => holds_out (o44 a1 b1 a2 b2 h0 h1 h45 h46 h47 h48 h49)))))
                                                 (fun h46 => holds_fork
                                                  (fun h47 => holds_out (o59 a1 b1 a2 b2 h0 h1 h45 h46 h47))
                                                  (fun h47 => holds_fork
                                                   (fun h48 => holds_true)
                                                   (fun h48 => holds_fork
                                                    (fun h49 => holds_out (o63 a1 b1 a2 b2 h0 h1 h45 h46 h47 h48 h49))
                                                    (fun h49 => holds_leaf (leaf_of (lf12 a1 b1 a2 b2 h0 h1 h45 h46 h47 h48 h49)))))))
                                                (fun h45 => holds_fork
                                                 (fun h46 => holds_fork
                                                  (fun h47 => holds_true)
                                                  (fun h47 => holds_fork
                                                   (fun h48 => holds_out (o64 a1 b1 a2 b2 h0 h1 h45 h46 h47 h48))
                                                   (fun h48 => holds_fork
                                                    (fun h49 => holds_out (o52 a1 b1 a2 b2 h0 h1 h45 h46 h47 h48 h49))
                                                    (fun h49 => holds_out (o53 a1 b1 a2 b2 h0 h1 h45 h46 h47 h48 h49)))))
                                                 (fun h46 => holds_fork
                                                  (fun h47 => holds_out (o54 a1 b1 a2 b2 h0 h1 h45 h46 h47))
                                                  (fun h47 => holds_fork
                                                   (fun h48 => holds_out (o55 a1 b1 a2 b2 h0 h1 h45 h46 h47 h48))
                                                   (fun h48 => holds_fork
                                                    (fun h49 => holds_leaf (leaf_of (lf13 a1 b1 a2 b2 h0 h1 h45 h46 h47 h48 h49)))
                                                    (fun h49 => holds_fork
                                                     (fun h50 => holds_out (o57 a1 b1 a2 b2 h0 h1 h45 h46 h47 h48 h49 h50))
                                                     (fun h50 => holds_leaf (leaf_of (lf14 a1 b1 a2 b2 h0 h1 h45 h46 h47 h48 h49 h50)))))))))
                                               (fun h44 => holds_fork
                                                (fun h45 => holds_fork
                                                 (fun h46 => holds_fork
                                                  (fun h47 => holds_fork
                                                   (fun h48 => holds_true)
                                                   (fun h48 => holds_out (o58 a1 b1 a2 b2 h0 h1 h46 h47 h48)))
                                                  (fun h47 => holds_fork
                                                   (fun h48 => holds_out (o59 a1 b1 a2 b2 h0 h1 h46 h47 h48))
                                                   (fun h48 => holds_leaf (leaf_of (lf15 a1 b1 a2 b2 h0 h1 h46 h47 h48)))))
                                                 (fun h46 => holds_fork
                                                  (fun h47 => holds_fork
                                                   (fun h48 => holds_true)
                                                   (fun h48 => holds_out (o60 a1 b1 a2 b2 h0 h1 h46 h47 h48)))
                                                  (fun h47 => holds_fork
                                                   (fun h48 => holds_out (o61 a1 b1 a2 b2 h0 h1 h46 h47 h48))
                                                   (fun h48 => holds_leaf (leaf_of (lf16 a1 b1 a2 b2 h0 h1 h46 h47 h48))))))
                                                (fun h45 => holds_fork
                                                 (fun h46 => holds_leaf (leaf_of (lf17 a1 b1 a2 b2 h0 h1)))
                                                 (fun h46 => holds_fork
                                                  (fun h47 => holds_leaf (leaf_of (lf18 a1 b1 a2 b2 h0 h1)))
                                                  (fun h47 => holds_fork
                                                   (fun h48 => holds_leaf (leaf_of (lf19 a1 b1 a2 b2 h0 h1)))
                                                   (fun h48 => holds_fork
                                                    (fun h49 => holds_fork
                                                     (fun h50 => holds_fork
                                                      (fun h51 => holds_leaf (leaf_of (lf20 a1 b1 a2 b2 h0 h1 h50 h51)))
                                                      (fun h51 => holds_out (o65 a1 b1 a2 b2 h0 h1 h50 h51)))
                                                     (fun h50 => holds_out (o66 a1 b1 a2 b2 h0 h1 h50)))
                                                    (fun h49 => holds_fork
                                                     (fun h50 => holds_fork
                                                      (fun h51 => holds_fork
                                                       (fun h52 => holds_leaf (leaf_of (lf21 a1 b1 a2 b2 h0 h1 h51 h52)))
                                                       (fun h52 => holds_out (o65 a1 b1 a2 b2 h0 h1 h51 h52)))
                                                      (fun h51 => holds_out (o66 a1 b1 a2 b2 h0 h1 h51)))
                                                     (fun h50 => holds_fork
                                                      (fun h51 => holds_fork
                                                       (fun h52 => holds_fork
                                                        (fun h53 => holds_leaf (leaf_of (lf22 a1 b1 a2 b2 h0 h1 h52 h53)))
                                                        (fun h53 => holds_out (o65 a1 b1 a2 b2 h0 h1 h52 h53)))
                                                       (fun h52 => holds_out (o66 a1 b1 a2 b2 h0 h1 h52)))
                                                      (fun h51 => holds_fork
                                                       (fun h52 => holds_fork
                                                        (fun h53 => holds_fork
                                                         (fun h54 => holds_fork
                                                          (fun h55 => holds_fork
                                                           (fun h56 => holds_leaf (leaf_of (lf23 a1 b1 a2 b2 h0 h1 h53 h54 h55 h56)))
                                                           (fun h56 => holds_out (o67 a1 b1 a2 b2 h0 h1 h53 h54 h55 h56)))
                                                          (fun h55 => holds_out (o68 a1 b1 a2 b2 h0 h1 h53 h54 h55)))
                                                         (fun h54 => holds_out (o69 a1 b1 a2 b2 h0 h1 h53 h54)))
                                                        (fun h53 => holds_out (o70 a1 b1 a2 b2 h0 h1 h53)))
                                                       (fun h52 => holds_fork
                                                        (fun h53 => holds_fork
                                                         (fun h54 => holds_fork
                                                          (fun h55 => holds_fork
                                                           (fun h56 => holds_fork
                                                            (fun h57 => holds_leaf (leaf_of (lf24 a1 b1 a2 b2 h0 h1 h54 h55 h56 h57)))
                                                            (fun h57 => holds_out (o71 a1 b1 a2 b2 h0 h1 h54 h55 h56 h57)))
                                                           (fun h56 => holds_out (o72 a1 b1 a2 b2 h0 h1 h54 h55 h56)))
                                                          (fun h55 => holds_out (o73 a1 b1 a2 b2 h0 h1 h54 h55)))
                                                         (fun h54 => holds_out (o74 a1 b1 a2 b2 h0 h1 h54)))
                                                        (fun h53 => holds_fork
                                                         (fun h54 => holds_true)
                                                         (fun h54 => holds_fork
                                                          (fun h55 => holds_true)
                                                          (fun h55 => holds_fork
                                                           (fun h56 => holds_true)
                                                           (fun h56 => holds_fork
                                                            (fun h57 => holds_leaf (leaf_of (lf25 a1 b1 a2 b2 h0 h1)))
                                                            (fun h57 => holds_fork
                                                             (fun h58 => holds_leaf (leaf_of (lf26 a1 b1 a2 b2 h0 h1)))
                                                             (fun h58 => holds_fork
                                                              (fun h59 => holds_leaf (leaf_of (lf27 a1 b1 a2 b2 h0 h1)))
                                                              (fun h59 => holds_fork
                                                               (fun h60 => holds_fork
                                                                (fun h61 => holds_fork
                                                                 (fun h62 => holds_true)
                                                                 (fun h62 => holds_fork
                                                                  (fun h63 => holds_fork
                                                                   (fun h64 => holds_true)
                                                                   (fun h64 => holds_fork
                                                                    (fun h65 => holds_fork
                                                                     (fun h66 => holds_true)
                                                                     (fun h66 => holds_out (o75 a1 b1 a2 b2 h0 h1 h61 h62 h63 h64 h65 h66)))
                                                                    (fun h65 => holds_fork
                                                                     (fun h66 => holds_out (o76 a1 b1 a2 b2 h0 h1 h61 h62 h63 h64 h65 h66))
                                                                     (fun h66 => holds_out (o77 a1 b1 a2 b2 h0 h1 h61 h62 h63 h64 h65 h66)))))
                                                                  (fun h63 => holds_fork
                                                                   (fun h64 => holds_out (o78 a1 b1 a2 b2 h0 h1 h61 h62 h63 h64))
                                                                   (fun h64 => holds_fork
                                                                    (fun h65 => holds_fork
                                                                     (fun h66 => holds_out (o79 a1 b1 a2 b2 h0 h1 h61 h62 h63 h64 h65 h66))
                                                                     (fun h66 => holds_leaf (leaf_of (lf28 a1 b1 a2 b2 h0 h1 h61 h62 h63 h64 h65 h66))))
                                                                    (fun h65 => holds_fork
                                                                     (fun h66 => holds_out (o80 a1 b1 a2 b2 h0 h1 h61 h62 h63 h64 h65 h66))
                                                                     (fun h66 => holds_leaf (leaf_of (lf29 a1 b1 a2 b2 h0 h1 h61 h62 h63 h64 h65 h66))))))))
                                                                (fun h61 => holds_fork
                                                                 (fun h62 => holds_true)
                                                                 (fun h62 => holds_fork
                                                                  (fun h63 => holds_out (o81 a1 b1 a2 b2 h0 h1 h61 h62 h63))
                                                                  (fun h63 => holds_fork
                                                                   (fun h64 => holds_out (o82 a1 b1 a2 b2 h0 h1 h61 h62 h63 h64))
                                                                   (fun h64 => holds_fork
                                                                    (fun h65 => holds_fork
                                                                     (fun h66 => holds_out (o83 a1 b1 a2 b2 h0 h1 h61 h62 h63 h64 h65 h66))
                                                                     (fun h66 => holds_leaf (leaf_of (lf30 a1 b1 a2 b2 h0 h1 h61 h62 h63 h64 h65 h66))))
                                                                    (fun h65 => holds_fork
                                                                     (fun h66 => holds_out (o84 a1 b1 a2 b2 h0 h1 h61 h62 h63 h64 h65 h66))
                                                                     (fun h66 => holds_leaf (leaf_of (lf31 a1 b1 a2 b2 h0 h1 h61 h62 h63 h64 h65 h66)))))))))
                                                               (fun h60 => holds_fork
                                                                (fun h61 => holds_fork
                                                                 (fun h62 => holds_fork
                                                                  (fun h63 => holds_true)
                                                                  (fun h63 => holds_fork
                                                                   (fun h64 => holds_out (o85 a1 b1 a2 b2 h0 h1 h62 h63 h64))
                                                                   (fun h64 => holds_leaf (leaf_of (lf32 a1 b1 a2 b2 h0 h1 h62 h63 h64)))))
                                                                 (fun h62 => holds_fork
                                                                  (fun h63 => holds_true)
                                                                  (fun h63 => holds_fork
                                                                   (fun h64 => holds_out (o86 a1 b1 a2 b2 h0 h1 h62 h63 h64))
                                                                   (fun h64 => holds_leaf (leaf_of (lf33 a1 b1 a2 b2 h0 h1 h62 h63 h64))))))
                                                                (fun h61 => holds_fork
                                                                 (fun h62 => holds_fork
                                                                  (fun h63 => holds_fork
                                                                   (fun h64 => holds_true)
                                                                   (fun h64 => holds_fork
                                                                    (fun h65 => holds_out (o85 a1 b1 a2 b2 h0 h1 h63 h64 h65))
                                                                    (fun h65 => holds_fork
                                                                     (fun h66 => holds_true)
                                                                     (fun h66 => holds_fork
                                                                      (fun h67 => holds_out (o87 a1 b1 a2 b2 h0 h1 h63 h64 h65 h66 h67))
                                                                      (fun h67 => holds_leaf (leaf_of (lf34 a1 b1 a2 b2 h0 h1 h63 h64 h65 h66 h67)))))))
                                                                  (fun h63 => holds_fork
                                                                   (fun h64 => holds_true)
                                                                   (fun h64 => holds_fork
                                                                    (fun h65 => holds_out (o81 a1 b1 a2 b2 h0 h1 h63 h64 h65))
                                                                    (fun h65 => holds_fork
                                                                     (fun h66 => holds_out (o82 a1 b1 a2 b2 h0 h1 h63 h64 h65 h66))
                                                                     (fun h66 => holds_fork
                                                                      (fun h67 => holds_leaf (leaf_of (lf35 a1 b1 a2 b2 h0 h1 h63 h64 h65 h66 h67)))
                                                                      (fun h67 => holds_fork
                                                                       (fun h68 => holds_out (o84 a1 b1 a2 b2 h0 h1 h63 h64 h65 h66 h67 h68))
                                                                       (fun h68 => holds_leaf (leaf_of (lf36 a1 b1 a2 b2 h0 h1 h63 h64 h65 h66 h67 h68)))))))))
                                                                 (fun h62 => holds_fork
                                                                  (fun h63 => holds_fork
                                                                   (fun h64 => holds_fork
                                                                    (fun h65 => holds_true)
                                                                    (fun h65 => holds_fork
                                                                     (fun h66 => holds_out (o85 a1 b1 a2 b2 h0 h1 h64 h65 h66))
                                                                     (fun h66 => holds_leaf (leaf_of (lf37 a1 b1 a2 b2 h0 h1 h64 h65 h66)))))
                                                                   (fun h64 => holds_fork
                                                                    (fun h65 => holds_true)
                                                                    (fun h65 => holds_fork
                                                                     (fun h66 => holds_out (o86 a1 b1 a2 b2 h0 h1 h64 h65 h66))
                                                                     (fun h66 => holds_leaf (leaf_of (lf38 a1 b1 a2 b2 h0 h1 h64 h65 h66))))))
                                                                  (fun h63 => holds_fork
                                                                   (fun h64 => holds_leaf (leaf_of (lf39 a1 b1 a2 b2 h0 h1)))
                                                                   (fun h64 => holds_fork
                                                                    (fun h65 => holds_leaf (leaf_of (lf40 a1 b1 a2 b2 h0 h1)))
                                                                    (fun h65 => holds_fork
                                                                     (fun h66 => holds_leaf (leaf_of (lf41 a1 b1 a2 b2 h0 h1)))
                                                                     (fun h66 => holds_fork
                                                                      (fun h67 => holds_fork
                                                                       (fun h68 => holds_fork
                                                                        (fun h69 => holds_leaf (leaf_of (lf42 a1 b1 a2 b2 h0 h1 h68 h69)))
                                                                        (fun h69 => holds_out (o88 a1 b1 a2 b2 h0 h1 h68 h69)))
                                                                       (fun h68 => holds_out (o89 a1 b1 a2 b2 h0 h1 h68)))
                                                                      (fun h67 => holds_fork
                                                                       (fun h68 => holds_fork
                                                                        (fun h69 => holds_fork
                                                                         (fun h70 => holds_leaf (leaf_of (lf43 a1 b1 a2 b2 h0 h1 h69 h70)))
                                                                         (fun h70 => holds_out (o88 a1 b1 a2 b2 h0 h1 h69 h70)))
                                                                        (fun h69 => holds_out (o89 a1 b1 a2 b2 h0 h1 h69)))
                                                                       (fun h68 => holds_fork
                                                                        (fun h69 => holds_fork
                                                                         (fun h70 => holds_fork
                                                                          (fun h71 => holds_leaf (leaf_of (lf44 a1 b1 a2 b2 h0 h1 h70 h71)))
                                                                          (fun h71 => holds_out (o88 a1 b1 a2 b2 h0 h1 h70 h71)))
                                                                         (fun h70 => holds_out (o89 a1 b1 a2 b2 h0 h1 h70)))
                                                                        (fun h69 => holds_fork
                                                                         (fun h70 => holds_fork
                                                                          (fun h71 => holds_fork
                                                                           (fun h72 => holds_fork
                                                                            (fun h73 => holds_fork
                                                                             (fun h74 => holds_leaf (leaf_of (lf45 a1 b1 a2 b2 h0 h1 h71 h72 h73 h74)))
                                                                             (fun h74 => holds_out (o90 a1 b1 a2 b2 h0 h1 h71 h72 h73 h74)))
                                                                            (fun h73 => holds_out (o91 a1 b1 a2 b2 h0 h1 h71 h72 h73)))
                                                                           (fun h72 => holds_out (o92 a1 b1 a2 b2 h0 h1 h71 h72)))
                                                                          (fun h71 => holds_out (o93 a1 b1 a2 b2 h0 h1 h71)))
                                                                         (fun h70 => holds_fork
                                                                          (fun h71 => holds_fork
                                                                           (fun h72 => holds_fork
                                                                            (fun h73 => holds_fork
                                                                             (fun h74 => holds_fork
                                                                              (fun h75 => holds_leaf (leaf_of (lf46 a1 b1 a2 b2 h0 h1 h72 h73 h74 h75)))
                                                                              (fun h75 => holds_out (o94 a1 b1 a2 b2 h0 h1 h72 h73 h74 h75)))
                                                                             (fun h74 => holds_out (o95 a1 b1 a2 b2 h0 h1 h72 h73 h74)))
                                                                            (fun h73 => holds_out (o96 a1 b1 a2 b2 h0 h1 h72 h73)))
                                                                           (fun h72 => holds_out (o97 a1 b1 a2 b2 h0 h1 h72)))
                                                                          (fun h71 => holds_out (by have q := (op_step 69 (op_step 68 (op_step 67 (op_step 66 (op_step 65 (op_step 64 (op_step 63 (op_step 62 (op_step 61 (op_step 60 (op_step 59 (op_step 58 (op_step 57 (op_step 56 (op_step 55 (op_step 54 (op_step 53 (op_step 52 (op_step 51 (op_step 50 (op_step 49 (op_step 48 (op_step 47 (op_step 46 (op_step 45 (op_step 44 (op_step 43 (op_step 42 (op_step 41 (op_step 40 (op_step 39 (op_step 38 (op_step 37 (op_step 36 (op_step 35 (op_step 34 (op_step 33 (op_step 32 (op_step 31 (op_step 30 (op_step 29 (op_step 28 (op_step 27 (op_step 26 (op_step 25 (op_step 24 (op_step 23 (op_step 22 (op_step 21 (op_step 20 (op_step 19 (op_step 18 (op_step 17 (op_step 16 (op_step 15 (op_step 14 (op_step 13 (op_step 12 (op_step 11 (op_step 10 (op_step 9 (op_step 8 (op_step 7 (op_step 6 (op_step 5 (op_step 4 (op_step 3 (op_step 2 (op_step 1 (op_step 0 (show (0 : Int) ≤ env 0 % 70 by omega) (op_ne 0 e70 h2)) (op_ne 1 e70 h3)) (op_ne 2 e70 h4)) (op_ne 3 e70 h5)) (op_ne 4 e70 h6)) (op_ne 5 e70 h7)) (op_ne 6 e70 h8)) (op_ne 7 e70 h9)) (op_ne 8 e70 h10)) (op_ne 9 e70 h11)) (op_ne 10 e70 h12)) (op_ne 11 e70 h13)) (op_ne 12 e70 h14)) (op_ne 13 e70 h15)) (op_ne 14 e70 h16)) (op_ne 15 e70 h17)) (op_ne 16 e70 h18)) (op_ne 17 e70 h19)) (op_ne 18 e70 h20)) (op_ne 19 e70 h21)) (op_ne 20 e70 h22)) (op_ne 21 e70 h23)) (op_ne 22 e70 h24)) (op_ne 23 e70 h25)) (op_ne 24 e70 h26)) (op_ne 25 e70 h27)) (op_ne 26 e70 h28)) (op_ne 27 e70 h29)) (op_ne 28 e70 h30)) (op_ne 29 e70 h31)) (op_ne 30 e70 h32)) (op_ne 31 e70 h33)) (op_ne 32 e70 h34)) (op_ne 33 e70 h35)) (op_ne 34 e70 h36)) (op_ne 35 e70 h37)) (op_ne 36 e70 h38)) (op_ne 37 e70 h39)) (op_ne 38 e70 h40)) (op_ne 39 e70 h41)) (op_ne 40 e70 h42)) (op_ne 41 e70 h43)) (op_ne 42 e70 h44)) (op_ne 43 e70 h45)) (op_ne 44 e70 h46)) (op_ne 45 e70 h47)) (op_ne 46 e70 h48)) (op_ne 47 e70 h49)) (op_ne 48 e70 h50)) (op_ne 49 e70 h51)) (op_ne 50 e70 h52)) (op_ne 51 e70 h53)) (op_ne 52 e70 h54)) (op_ne 53 e70 h55)) (op_ne 54 e70 h56)) (op_ne 55 e70 h57)) (op_ne 56 e70 h58)) (op_ne 57 e70 h59)) (op_ne 58 e70 h60)) (op_ne 59 e70 h61)) (op_ne 60 e70 h62)) (op_ne 61 e70 h63)) (op_ne 62 e70 h64)) (op_ne 63 e70 h65)) (op_ne 64 e70 h66)) (op_ne 65 e70 h67)) (op_ne 66 e70 h68)) (op_ne 67 e70 h69)) (op_ne 68 e70 h70)) (op_ne 69 e70 h71)); omega))))))))))))))))))))))))))))))))))))))))))))))))))))))))))))))))))))))))
    (fun h1 => holds_out (o98 a1 b1 a2 b2 h0 h1)))
   (fun h0 => holds_out (o99 a1 b1 a2 b2 h0))
end Go.Vm.VStepNumbers
