/- The law StepOpens: what is to be shown of the numbers. -/
import Derived.Test.YtjbfdmhldofeiaaGreatDoorVStepOpensB
import Derived.Test.YtjbfdmhldofeiaaGreatDoorVmNums
set_option linter.unusedVariables false
set_option linter.unusedSimpArgs false
namespace Go.Vm.VStepOpens
open Go.Vm
theorem holds {env : Nat → Int} (a0 : 0 ≤ env 0) (b0 : env 0 ≤ 18446744073709551615) (a1 : 0 ≤ env 1) (b1 : env 1 ≤ 18446744073709551615) (a2 : 0 ≤ env 2) (b2 : env 2 ≤ 255) : dt.holds env := by
  exact holds_fork
   (fun h0 => holds_fork
    (fun h1 => holds_out (by simp (disch := omega) only [e0, e1, den_iff, BE.P, IE.den, Bool.not_true, Bool.not_false, den_add, den_sub, den_mul, den_tdiv, den_tmod, den_min, den_max, den_and, and_low, and_31, and_63, wrap_u8, wrap_u16, wrap_u32, wrap_u64, wrap_i8, wrap_i16, wrap_i32, wrap_i64, Int.ofNat_eq_natCast, Int.tmod_eq_emod_of_nonneg, Int.tdiv_eq_ediv_of_nonneg] at h0 h1; omega))
    (fun h1 => holds_true))
   (fun h0 => holds_fork
    (fun h1 => holds_fork
     (fun h2 => holds_out (by simp (disch := omega) only [e0, e2, e1, den_iff, BE.P, IE.den, Bool.not_true, Bool.not_false, den_add, den_sub, den_mul, den_tdiv, den_tmod, den_min, den_max, den_and, and_low, and_31, and_63, wrap_u8, wrap_u16, wrap_u32, wrap_u64, wrap_i8, wrap_i16, wrap_i32, wrap_i64, Int.ofNat_eq_natCast, Int.tmod_eq_emod_of_nonneg, Int.tdiv_eq_ediv_of_nonneg] at h0 h1 h2; omega))
     (fun h2 => holds_true))
    (fun h1 => holds_fork
     (fun h2 => holds_fork
      (fun h3 => holds_out (by simp (disch := omega) only [e0, e2, e3, e1, den_iff, BE.P, IE.den, Bool.not_true, Bool.not_false, den_add, den_sub, den_mul, den_tdiv, den_tmod, den_min, den_max, den_and, and_low, and_31, and_63, wrap_u8, wrap_u16, wrap_u32, wrap_u64, wrap_i8, wrap_i16, wrap_i32, wrap_i64, Int.ofNat_eq_natCast, Int.tmod_eq_emod_of_nonneg, Int.tdiv_eq_ediv_of_nonneg] at h0 h1 h2 h3; omega))
      (fun h3 => holds_true))
     (fun h2 => holds_fork
      (fun h3 => holds_fork
       (fun h4 => holds_out (by simp (disch := omega) only [e0, e2, e3, e4, e1, den_iff, BE.P, IE.den, Bool.not_true, Bool.not_false, den_add, den_sub, den_mul, den_tdiv, den_tmod, den_min, den_max, den_and, and_low, and_31, and_63, wrap_u8, wrap_u16, wrap_u32, wrap_u64, wrap_i8, wrap_i16, wrap_i32, wrap_i64, Int.ofNat_eq_natCast, Int.tmod_eq_emod_of_nonneg, Int.tdiv_eq_ediv_of_nonneg] at h0 h1 h2 h3 h4; omega))
       (fun h4 => holds_true))
      (fun h3 => holds_fork
       (fun h4 => holds_fork
        (fun h5 => holds_out (by simp (disch := omega) only [e0, e2, e3, e4, e5, e1, den_iff, BE.P, IE.den, Bool.not_true, Bool.not_false, den_add, den_sub, den_mul, den_tdiv, den_tmod, den_min, den_max, den_and, and_low, and_31, and_63, wrap_u8, wrap_u16, wrap_u32, wrap_u64, wrap_i8, wrap_i16, wrap_i32, wrap_i64, Int.ofNat_eq_natCast, Int.tmod_eq_emod_of_nonneg, Int.tdiv_eq_ediv_of_nonneg] at h0 h1 h2 h3 h4 h5; omega))
        (fun h5 => holds_true))
       (fun h4 => holds_fork
        (fun h5 => holds_fork
         (fun h6 => holds_out (by simp (disch := omega) only [e0, e2, e3, e4, e5, e6, e1, den_iff, BE.P, IE.den, Bool.not_true, Bool.not_false, den_add, den_sub, den_mul, den_tdiv, den_tmod, den_min, den_max, den_and, and_low, and_31, and_63, wrap_u8, wrap_u16, wrap_u32, wrap_u64, wrap_i8, wrap_i16, wrap_i32, wrap_i64, Int.ofNat_eq_natCast, Int.tmod_eq_emod_of_nonneg, Int.tdiv_eq_ediv_of_nonneg] at h0 h1 h2 h3 h4 h5 h6; omega))
         (fun h6 => holds_true))
        (fun h5 => holds_fork
         (fun h6 => holds_fork
          (fun h7 => holds_out (by simp (disch := omega) only [e0, e2, e3, e4, e5, e6, e7, e1, den_iff, BE.P, IE.den, Bool.not_true, Bool.not_false, den_add, den_sub, den_mul, den_tdiv, den_tmod, den_min, den_max, den_and, and_low, and_31, and_63, wrap_u8, wrap_u16, wrap_u32, wrap_u64, wrap_i8, wrap_i16, wrap_i32, wrap_i64, Int.ofNat_eq_natCast, Int.tmod_eq_emod_of_nonneg, Int.tdiv_eq_ediv_of_nonneg] at h0 h1 h2 h3 h4 h5 h6 h7; omega))
          (fun h7 => holds_true))
         (fun h6 => holds_fork
          (fun h7 => holds_fork
           (fun h8 => holds_out (by simp (disch := omega) only [e0, e2, e3, e4, e5, e6, e7, e8, e1, den_iff, BE.P, IE.den, Bool.not_true, Bool.not_false, den_add, den_sub, den_mul, den_tdiv, den_tmod, den_min, den_max, den_and, and_low, and_31, and_63, wrap_u8, wrap_u16, wrap_u32, wrap_u64, wrap_i8, wrap_i16, wrap_i32, wrap_i64, Int.ofNat_eq_natCast, Int.tmod_eq_emod_of_nonneg, Int.tdiv_eq_ediv_of_nonneg] at h0 h1 h2 h3 h4 h5 h6 h7 h8; omega))
           (fun h8 => holds_true))
          (fun h7 => holds_fork
           (fun h8 => holds_fork
            (fun h9 => holds_out (by simp (disch := omega) only [e0, e2, e3, e4, e5, e6, e7, e8, e9, e1, den_iff, BE.P, IE.den, Bool.not_true, Bool.not_false, den_add, den_sub, den_mul, den_tdiv, den_tmod, den_min, den_max, den_and, and_low, and_31, and_63, wrap_u8, wrap_u16, wrap_u32, wrap_u64, wrap_i8, wrap_i16, wrap_i32, wrap_i64, Int.ofNat_eq_natCast, Int.tmod_eq_emod_of_nonneg, Int.tdiv_eq_ediv_of_nonneg] at h0 h1 h2 h3 h4 h5 h6 h7 h8 h9; omega))
            (fun h9 => holds_true))
           (fun h8 => holds_fork
            (fun h9 => holds_fork
             (fun h10 => holds_out (by simp (disch := omega) only [e0, e2, e3, e4, e5, e6, e7, e8, e9, e10, e1, den_iff, BE.P, IE.den, Bool.not_true, Bool.not_false, den_add, den_sub, den_mul, den_tdiv, den_tmod, den_min, den_max, den_and, and_low, and_31, and_63, wrap_u8, wrap_u16, wrap_u32, wrap_u64, wrap_i8, wrap_i16, wrap_i32, wrap_i64, Int.ofNat_eq_natCast, Int.tmod_eq_emod_of_nonneg, Int.tdiv_eq_ediv_of_nonneg] at h0 h1 h2 h3 h4 h5 h6 h7 h8 h9 h10; omega))
             (fun h10 => holds_true))
            (fun h9 => holds_fork
             (fun h10 => holds_fork
              (fun h11 => holds_out (by simp (disch := omega) only [e0, e2, e3, e4, e5, e6, e7, e8, e9, e10, e11, e1, den_iff, BE.P, IE.den, Bool.not_true, Bool.not_false, den_add, den_sub, den_mul, den_tdiv, den_tmod, den_min, den_max, den_and, and_low, and_31, and_63, wrap_u8, wrap_u16, wrap_u32, wrap_u64, wrap_i8, wrap_i16, wrap_i32, wrap_i64, Int.ofNat_eq_natCast, Int.tmod_eq_emod_of_nonneg, Int.tdiv_eq_ediv_of_nonneg] at h0 h1 h2 h3 h4 h5 h6 h7 h8 h9 h10 h11; omega))
              (fun h11 => holds_true))
             (fun h10 => holds_fork
              (fun h11 => holds_fork
               (fun h12 => holds_out (by simp (disch := omega) only [e0, e2, e3, e4, e5, e6, e7, e8, e9, e10, e11, e12, e1, den_iff, BE.P, IE.den, Bool.not_true, Bool.not_false, den_add, den_sub, den_mul, den_tdiv, den_tmod, den_min, den_max, den_and, and_low, and_31, and_63, wrap_u8, wrap_u16, wrap_u32, wrap_u64, wrap_i8, wrap_i16, wrap_i32, wrap_i64, Int.ofNat_eq_natCast, Int.tmod_eq_emod_of_nonneg, Int.tdiv_eq_ediv_of_nonneg] at h0 h1 h2 h3 h4 h5 h6 h7 h8 h9 h10 h11 h12; omega))
               (fun h12 => holds_true))
              (fun h11 => holds_fork
               (fun h12 => holds_fork
                (fun h13 => holds_out (by simp (disch := omega) only [e0, e2, e3, e4, e5, e6, e7, e8, e9, e10, e11, e12, e13, e1, den_iff, BE.P, IE.den, Bool.not_true, Bool.not_false, den_add, den_sub, den_mul, den_tdiv, den_tmod, den_min, den_max, den_and, and_low, and_31, and_63, wrap_u8, wrap_u16, wrap_u32, wrap_u64, wrap_i8, wrap_i16, wrap_i32, wrap_i64, Int.ofNat_eq_natCast, Int.tmod_eq_emod_of_nonneg, Int.tdiv_eq_ediv_of_nonneg] at h0 h1 h2 h3 h4 h5 h6 h7 h8 h9 h10 h11 h12 h13; omega))
                (fun h13 => holds_true))
               (fun h12 => holds_fork
                (fun h13 => holds_fork
                 (fun h14 => holds_out (by simp (disch := omega) only [e0, e2, e3, e4, e5, e6, e7, e8, e9, e10, e11, e12, e13, e14, e1, den_iff, BE.P, IE.den, Bool.not_true, Bool.not_false, den_add, den_sub, den_mul, den_tdiv, den_tmod, den_min, den_max, den_and, and_low, and_31, and_63, wrap_u8, wrap_u16, wrap_u32, wrap_u64, wrap_i8, wrap_i16, wrap_i32, wrap_i64, Int.ofNat_eq_natCast, Int.tmod_eq_emod_of_nonneg, Int.tdiv_eq_ediv_of_nonneg] at h0 h1 h2 h3 h4 h5 h6 h7 h8 h9 h10 h11 h12 h13 h14; omega))
                 (fun h14 => holds_true))
                (fun h13 => holds_fork
                 (fun h14 => holds_fork
                  (fun h15 => holds_out (by simp (disch := omega) only [e0, e2, e3, e4, e5, e6, e7, e8, e9, e10, e11, e12, e13, e14, e15, e1, den_iff, BE.P, IE.den, Bool.not_true, Bool.not_false, den_add, den_sub, den_mul, den_tdiv, den_tmod, den_min, den_max, den_and, and_low, and_31, and_63, wrap_u8, wrap_u16, wrap_u32, wrap_u64, wrap_i8, wrap_i16, wrap_i32, wrap_i64, Int.ofNat_eq_natCast, Int.tmod_eq_emod_of_nonneg, Int.tdiv_eq_ediv_of_nonneg] at h0 h1 h2 h3 h4 h5 h6 h7 h8 h9 h10 h11 h12 h13 h14 h15; omega))
                  (fun h15 => holds_true))
                 (fun h14 => holds_fork
                  (fun h15 => holds_fork
                   (fun h16 => holds_out (by simp (disch := omega) only [e0, e2, e3, e4, e5, e6, e7, e8, e9, e10, e11, e12, e13, e14, e15, e16, e1, den_iff, BE.P, IE.den, Bool.not_true, Bool.not_false, den_add, den_sub, den_mul, den_tdiv, den_tmod, den_min, den_max, den_and, and_low, and_31, and_63, wrap_u8, wrap_u16, wrap_u32, wrap_u64, wrap_i8, wrap_i16, wrap_i32, wrap_i64, Int.ofNat_eq_natCast, Int.tmod_eq_emod_of_nonneg, Int.tdiv_eq_ediv_of_nonneg] at h0 h1 h2 h3 h4 h5 h6 h7 h8 h9 h10 h11 h12 h13 h14 h15 h16; omega))
                   (fun h16 => holds_true))
                  (fun h15 => holds_fork
                   (fun h16 => holds_fork
                    (fun h17 => holds_out (by simp (disch := omega) only [e0, e2, e3, e4, e5, e6, e7, e8, e9, e10, e11, e12, e13, e14, e15, e16, e17, e1, den_iff, BE.P, IE.den, Bool.not_true, Bool.not_false, den_add, den_sub, den_mul, den_tdiv, den_tmod, den_min, den_max, den_and, and_low, and_31, and_63, wrap_u8, wrap_u16, wrap_u32, wrap_u64, wrap_i8, wrap_i16, wrap_i32, wrap_i64, Int.ofNat_eq_natCast, Int.tmod_eq_emod_of_nonneg, Int.tdiv_eq_ediv_of_nonneg] at h0 h1 h2 h3 h4 h5 h6 h7 h8 h9 h10 h11 h12 h13 h14 h15 h16 h17; omega))
                    (fun h17 => holds_true))
                   (fun h16 => holds_fork
                    (fun h17 => holds_fork
                     (fun h18 => holds_out (by simp (disch := omega) only [e0, e2, e3, e4, e5, e6, e7, e8, e9, e10, e11, e12, e13, e14, e15, e16, e17, e18, e1, den_iff, BE.P, IE.den, Bool.not_true, Bool.not_false, den_add, den_sub, den_mul, den_tdiv, den_tmod, den_min, den_max, den_and, and_low, and_31, and_63, wrap_u8, wrap_u16, wrap_u32, wrap_u64, wrap_i8, wrap_i16, wrap_i32, wrap_i64, Int.ofNat_eq_natCast, Int.tmod_eq_emod_of_nonneg, Int.tdiv_eq_ediv_of_nonneg] at h0 h1 h2 h3 h4 h5 h6 h7 h8 h9 h10 h11 h12 h13 h14 h15 h16 h17 h18; omega))
                     (fun h18 => holds_true))
                    (fun h17 => holds_fork
                     (fun h18 => holds_fork
                      (fun h19 => holds_out (by simp (disch := omega) only [e0, e2, e3, e4, e5, e6, e7, e8, e9, e10, e11, e12, e13, e14, e15, e16, e17, e18, e19, e1, den_iff, BE.P, IE.den, Bool.not_true, Bool.not_false, den_add, den_sub, den_mul, den_tdiv, den_tmod, den_min, den_max, den_and, and_low, and_31, and_63, wrap_u8, wrap_u16, wrap_u32, wrap_u64, wrap_i8, wrap_i16, wrap_i32, wrap_i64, Int.ofNat_eq_natCast, Int.tmod_eq_emod_of_nonneg, Int.tdiv_eq_ediv_of_nonneg] at h0 h1 h2 h3 h4 h5 h6 h7 h8 h9 h10 h11 h12 h13 h14 h15 h16 h17 h18 h19; omega))
                      (fun h19 => holds_true))
                     (fun h18 => holds_fork
                      (fun h19 => holds_fork
                       (fun h20 => holds_out (by simp (disch := omega) only [e0, e2, e3, e4, e5, e6, e7, e8, e9, e10, e11, e12, e13, e14, e15, e16, e17, e18, e19, e20, e1, den_iff, BE.P, IE.den, Bool.not_true, Bool.not_false, den_add, den_sub, den_mul, den_tdiv, den_tmod, den_min, den_max, den_and, and_low, and_31, and_63, wrap_u8, wrap_u16, wrap_u32, wrap_u64, wrap_i8, wrap_i16, wrap_i32, wrap_i64, Int.ofNat_eq_natCast, Int.tmod_eq_emod_of_nonneg, Int.tdiv_eq_ediv_of_nonneg] at h0 h1 h2 h3 h4 h5 h6 h7 h8 h9 h10 h11 h12 h13 h14 h15 h16 h17 h18 h19 h20; omega))
                       (fun h20 => holds_true))
                      (fun h19 => holds_out (by simp (disch := omega) only [e0, e2, e3, e4, e5, e6, e7, e8, e9, e10, e11, e12, e13, e14, e15, e16, e17, e18, e19, e20, den_iff, BE.P, IE.den, Bool.not_true, Bool.not_false, den_add, den_sub, den_mul, den_tdiv, den_tmod, den_min, den_max, den_and, and_low, and_31, and_63, wrap_u8, wrap_u16, wrap_u32, wrap_u64, wrap_i8, wrap_i16, wrap_i32, wrap_i64, Int.ofNat_eq_natCast, Int.tmod_eq_emod_of_nonneg, Int.tdiv_eq_ediv_of_nonneg] at h0 h1 h2 h3 h4 h5 h6 h7 h8 h9 h10 h11 h12 h13 h14 h15 h16 h17 h18 h19; omega)))))))))))))))))))))
end Go.Vm.VStepOpens
