/- The law CallArgs: what is to be shown of the numbers. -/
import Derived.Test.YtkmlhhiialbfgaaGreatDoorVCallArgsB
import Derived.Test.YtkmlhhiialbfgaaGreatDoorVmNums
set_option linter.unusedVariables false
set_option linter.unusedSimpArgs false
namespace Go.Vm.VCallArgs
open Go.Vm
theorem holds_0 {env : Nat → Int} (a0 : 0 ≤ env 0) (b0 : env 0 ≤ 255) : dt_0.holds env := by
  exact holds_fork
   (fun h0 => holds_true)
   (fun h0 => holds_fork
    (fun h1 => holds_true)
    (fun h1 => holds_fork
     (fun h2 => holds_true)
     (fun h2 => holds_fork
      (fun h3 => holds_true)
      (fun h3 => holds_fork
       (fun h4 => holds_true)
       (fun h4 => holds_fork
        (fun h5 => holds_true)
        (fun h5 => holds_fork
         (fun h6 => holds_true)
         (fun h6 => holds_fork
          (fun h7 => holds_true)
          (fun h7 => holds_fork
           (fun h8 => holds_true)
           (fun h8 => holds_fork
            (fun h9 => holds_true)
            (fun h9 => holds_out (by simp (disch := omega) only [e0, e1, e2, e3, e4, e5, e6, e7, e8, e9, den_iff, BE.P, IE.den, Bool.not_true, Bool.not_false, den_add, den_sub, den_mul, den_tdiv, den_tmod, den_min, den_max, den_and, and_low, and_31, and_63, and_i31, and_i63, wrap_u8, wrap_u16, wrap_u32, wrap_u64, wrap_i8, wrap_i16, wrap_i32, wrap_i64, Int.ofNat_eq_natCast, Int.tmod_eq_emod_of_nonneg, Int.tdiv_eq_ediv_of_nonneg] at h0 h1 h2 h3 h4 h5 h6 h7 h8 h9; omega)))))))))))
theorem holds_1 {env : Nat → Int} (a0 : 0 ≤ env 0) (b0 : env 0 ≤ 255) (c0 : 0 ≤ env 1000) (d0 : env 1000 ≤ 18446744073709551615) : dt_1.holds env := by
  exact holds_fork
   (fun h0 => holds_fork
    (fun h1 => holds_true)
    (fun h1 => holds_true))
   (fun h0 => holds_fork
    (fun h1 => holds_true)
    (fun h1 => holds_fork
     (fun h2 => holds_true)
     (fun h2 => holds_fork
      (fun h3 => holds_true)
      (fun h3 => holds_fork
       (fun h4 => holds_true)
       (fun h4 => holds_fork
        (fun h5 => holds_fork
         (fun h6 => holds_true)
         (fun h6 => holds_true))
        (fun h5 => holds_fork
         (fun h6 => holds_fork
          (fun h7 => holds_true)
          (fun h7 => holds_true))
         (fun h6 => holds_fork
          (fun h7 => holds_true)
          (fun h7 => holds_fork
           (fun h8 => holds_true)
           (fun h8 => holds_fork
            (fun h9 => holds_true)
            (fun h9 => holds_out (by simp (disch := omega) only [e0, e1, e2, e3, e4, e5, e6, e7, e8, e9, den_iff, BE.P, IE.den, Bool.not_true, Bool.not_false, den_add, den_sub, den_mul, den_tdiv, den_tmod, den_min, den_max, den_and, and_low, and_31, and_63, and_i31, and_i63, wrap_u8, wrap_u16, wrap_u32, wrap_u64, wrap_i8, wrap_i16, wrap_i32, wrap_i64, Int.ofNat_eq_natCast, Int.tmod_eq_emod_of_nonneg, Int.tdiv_eq_ediv_of_nonneg] at h0 h1 h2 h3 h4 h5 h6 h7 h8 h9; omega)))))))))))
theorem holds_2 {env : Nat → Int} (a0 : 0 ≤ env 0) (b0 : env 0 ≤ 255) (c0 : 0 ≤ env 1000) (d0 : env 1000 ≤ 18446744073709551615) (c1 : 0 ≤ env 1001) (d1 : env 1001 ≤ 18446744073709551615) : dt_2.holds env := by
  exact holds_fork
   (fun h0 => holds_true)
   (fun h0 => holds_fork
    (fun h1 => holds_true)
    (fun h1 => holds_fork
     (fun h2 => holds_true)
     (fun h2 => holds_fork
      (fun h3 => holds_true)
      (fun h3 => holds_fork
       (fun h4 => holds_fork
        (fun h5 => holds_true)
        (fun h5 => holds_fork
         (fun h6 => holds_true)
         (fun h6 => holds_true)))
       (fun h4 => holds_fork
        (fun h5 => holds_true)
        (fun h5 => holds_fork
         (fun h6 => holds_true)
         (fun h6 => holds_fork
          (fun h7 => holds_true)
          (fun h7 => holds_fork
           (fun h8 => holds_true)
           (fun h8 => holds_fork
            (fun h9 => holds_true)
            (fun h9 => holds_out (by simp (disch := omega) only [e0, e1, e2, e3, e4, e5, e6, e7, e8, e9, den_iff, BE.P, IE.den, Bool.not_true, Bool.not_false, den_add, den_sub, den_mul, den_tdiv, den_tmod, den_min, den_max, den_and, and_low, and_31, and_63, and_i31, and_i63, wrap_u8, wrap_u16, wrap_u32, wrap_u64, wrap_i8, wrap_i16, wrap_i32, wrap_i64, Int.ofNat_eq_natCast, Int.tmod_eq_emod_of_nonneg, Int.tdiv_eq_ediv_of_nonneg] at h0 h1 h2 h3 h4 h5 h6 h7 h8 h9; omega)))))))))))
theorem holds_3 {env : Nat → Int} (a0 : 0 ≤ env 0) (b0 : env 0 ≤ 255) (c0 : 0 ≤ env 1000) (d0 : env 1000 ≤ 18446744073709551615) (c1 : 0 ≤ env 1001) (d1 : env 1001 ≤ 18446744073709551615) (c2 : 0 ≤ env 1002) (d2 : env 1002 ≤ 18446744073709551615) : dt_3.holds env := by
  exact holds_fork
   (fun h0 => holds_true)
   (fun h0 => holds_fork
    (fun h1 => holds_true)
    (fun h1 => holds_fork
     (fun h2 => holds_true)
     (fun h2 => holds_fork
      (fun h3 => holds_true)
      (fun h3 => holds_fork
       (fun h4 => holds_true)
       (fun h4 => holds_fork
        (fun h5 => holds_true)
        (fun h5 => holds_fork
         (fun h6 => holds_true)
         (fun h6 => holds_fork
          (fun h7 => holds_true)
          (fun h7 => holds_fork
           (fun h8 => holds_true)
           (fun h8 => holds_fork
            (fun h9 => holds_true)
            (fun h9 => holds_out (by simp (disch := omega) only [e0, e1, e2, e3, e4, e5, e6, e7, e8, e9, den_iff, BE.P, IE.den, Bool.not_true, Bool.not_false, den_add, den_sub, den_mul, den_tdiv, den_tmod, den_min, den_max, den_and, and_low, and_31, and_63, and_i31, and_i63, wrap_u8, wrap_u16, wrap_u32, wrap_u64, wrap_i8, wrap_i16, wrap_i32, wrap_i64, Int.ofNat_eq_natCast, Int.tmod_eq_emod_of_nonneg, Int.tdiv_eq_ediv_of_nonneg] at h0 h1 h2 h3 h4 h5 h6 h7 h8 h9; omega)))))))))))
theorem holds_4 {env : Nat → Int} (a0 : 0 ≤ env 0) (b0 : env 0 ≤ 255) (c0 : 0 ≤ env 1000) (d0 : env 1000 ≤ 18446744073709551615) (c1 : 0 ≤ env 1001) (d1 : env 1001 ≤ 18446744073709551615) (c2 : 0 ≤ env 1002) (d2 : env 1002 ≤ 18446744073709551615) (c3 : 0 ≤ env 1003) (d3 : env 1003 ≤ 18446744073709551615) : dt_4.holds env := by
  exact holds_fork
   (fun h0 => holds_true)
   (fun h0 => holds_fork
    (fun h1 => holds_true)
    (fun h1 => holds_fork
     (fun h2 => holds_true)
     (fun h2 => holds_fork
      (fun h3 => holds_true)
      (fun h3 => holds_fork
       (fun h4 => holds_true)
       (fun h4 => holds_fork
        (fun h5 => holds_true)
        (fun h5 => holds_fork
         (fun h6 => holds_true)
         (fun h6 => holds_fork
          (fun h7 => holds_true)
          (fun h7 => holds_fork
           (fun h8 => holds_true)
           (fun h8 => holds_fork
            (fun h9 => holds_true)
            (fun h9 => holds_out (by simp (disch := omega) only [e0, e1, e2, e3, e4, e5, e6, e7, e8, e9, den_iff, BE.P, IE.den, Bool.not_true, Bool.not_false, den_add, den_sub, den_mul, den_tdiv, den_tmod, den_min, den_max, den_and, and_low, and_31, and_63, and_i31, and_i63, wrap_u8, wrap_u16, wrap_u32, wrap_u64, wrap_i8, wrap_i16, wrap_i32, wrap_i64, Int.ofNat_eq_natCast, Int.tmod_eq_emod_of_nonneg, Int.tdiv_eq_ediv_of_nonneg] at h0 h1 h2 h3 h4 h5 h6 h7 h8 h9; omega)))))))))))
theorem holds_5 {env : Nat → Int} (a0 : 0 ≤ env 0) (b0 : env 0 ≤ 255) (c0 : 0 ≤ env 1000) (d0 : env 1000 ≤ 18446744073709551615) (c1 : 0 ≤ env 1001) (d1 : env 1001 ≤ 18446744073709551615) (c2 : 0 ≤ env 1002) (d2 : env 1002 ≤ 18446744073709551615) (c3 : 0 ≤ env 1003) (d3 : env 1003 ≤ 18446744073709551615) (c4 : 0 ≤ env 1004) (d4 : env 1004 ≤ 18446744073709551615) : dt_5.holds env := by
  exact holds_fork
   (fun h0 => holds_true)
   (fun h0 => holds_fork
    (fun h1 => holds_true)
    (fun h1 => holds_fork
     (fun h2 => holds_true)
     (fun h2 => holds_fork
      (fun h3 => holds_true)
      (fun h3 => holds_fork
       (fun h4 => holds_true)
       (fun h4 => holds_fork
        (fun h5 => holds_true)
        (fun h5 => holds_fork
         (fun h6 => holds_true)
         (fun h6 => holds_fork
          (fun h7 => holds_true)
          (fun h7 => holds_fork
           (fun h8 => holds_true)
           (fun h8 => holds_fork
            (fun h9 => holds_true)
            (fun h9 => holds_out (by simp (disch := omega) only [e0, e1, e2, e3, e4, e5, e6, e7, e8, e9, den_iff, BE.P, IE.den, Bool.not_true, Bool.not_false, den_add, den_sub, den_mul, den_tdiv, den_tmod, den_min, den_max, den_and, and_low, and_31, and_63, and_i31, and_i63, wrap_u8, wrap_u16, wrap_u32, wrap_u64, wrap_i8, wrap_i16, wrap_i32, wrap_i64, Int.ofNat_eq_natCast, Int.tmod_eq_emod_of_nonneg, Int.tdiv_eq_ediv_of_nonneg] at h0 h1 h2 h3 h4 h5 h6 h7 h8 h9; omega)))))))))))
theorem holds_6 {env : Nat → Int} (a0 : 0 ≤ env 0) (b0 : env 0 ≤ 255) (c0 : 0 ≤ env 1000) (d0 : env 1000 ≤ 18446744073709551615) (c1 : 0 ≤ env 1001) (d1 : env 1001 ≤ 18446744073709551615) (c2 : 0 ≤ env 1002) (d2 : env 1002 ≤ 18446744073709551615) (c3 : 0 ≤ env 1003) (d3 : env 1003 ≤ 18446744073709551615) (c4 : 0 ≤ env 1004) (d4 : env 1004 ≤ 18446744073709551615) (c5 : 0 ≤ env 1005) (d5 : env 1005 ≤ 18446744073709551615) : dt_6.holds env := by
  exact holds_fork
   (fun h0 => holds_true)
   (fun h0 => holds_fork
    (fun h1 => holds_true)
    (fun h1 => holds_fork
     (fun h2 => holds_true)
     (fun h2 => holds_fork
      (fun h3 => holds_true)
      (fun h3 => holds_fork
       (fun h4 => holds_true)
       (fun h4 => holds_fork
        (fun h5 => holds_true)
        (fun h5 => holds_fork
         (fun h6 => holds_true)
         (fun h6 => holds_fork
          (fun h7 => holds_true)
          (fun h7 => holds_fork
           (fun h8 => holds_true)
           (fun h8 => holds_fork
            (fun h9 => holds_true)
            (fun h9 => holds_out (by simp (disch := omega) only [e0, e1, e2, e3, e4, e5, e6, e7, e8, e9, den_iff, BE.P, IE.den, Bool.not_true, Bool.not_false, den_add, den_sub, den_mul, den_tdiv, den_tmod, den_min, den_max, den_and, and_low, and_31, and_63, and_i31, and_i63, wrap_u8, wrap_u16, wrap_u32, wrap_u64, wrap_i8, wrap_i16, wrap_i32, wrap_i64, Int.ofNat_eq_natCast, Int.tmod_eq_emod_of_nonneg, Int.tdiv_eq_ediv_of_nonneg] at h0 h1 h2 h3 h4 h5 h6 h7 h8 h9; omega)))))))))))
theorem holds_nil {env : Nat → Int} (a0 : 0 ≤ env 0) (b0 : env 0 ≤ 255) : dt_nil.holds env := by
  exact holds_fork
   (fun h0 => holds_true)
   (fun h0 => holds_fork
    (fun h1 => holds_true)
    (fun h1 => holds_fork
     (fun h2 => holds_true)
     (fun h2 => holds_fork
      (fun h3 => holds_true)
      (fun h3 => holds_fork
       (fun h4 => holds_true)
       (fun h4 => holds_fork
        (fun h5 => holds_true)
        (fun h5 => holds_fork
         (fun h6 => holds_true)
         (fun h6 => holds_fork
          (fun h7 => holds_true)
          (fun h7 => holds_fork
           (fun h8 => holds_true)
           (fun h8 => holds_fork
            (fun h9 => holds_true)
            (fun h9 => holds_out (by simp (disch := omega) only [e0, e1, e2, e3, e4, e5, e6, e7, e8, e9, den_iff, BE.P, IE.den, Bool.not_true, Bool.not_false, den_add, den_sub, den_mul, den_tdiv, den_tmod, den_min, den_max, den_and, and_low, and_31, and_63, and_i31, and_i63, wrap_u8, wrap_u16, wrap_u32, wrap_u64, wrap_i8, wrap_i16, wrap_i32, wrap_i64, Int.ofNat_eq_natCast, Int.tmod_eq_emod_of_nonneg, Int.tdiv_eq_ediv_of_nonneg] at h0 h1 h2 h3 h4 h5 h6 h7 h8 h9; omega)))))))))))
end Go.Vm.VCallArgs
