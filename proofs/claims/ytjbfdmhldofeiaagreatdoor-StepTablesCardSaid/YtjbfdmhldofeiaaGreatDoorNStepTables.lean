/- The law StepTables: what is to be shown of the numbers. -/
import Derived.Test.YtjbfdmhldofeiaaGreatDoorVStepTablesB
import Derived.Test.YtjbfdmhldofeiaaGreatDoorVmNums
set_option linter.unusedVariables false
set_option linter.unusedSimpArgs false
namespace Go.Vm.VStepTables
open Go.Vm
theorem holds {env : Nat → Int} (a0 : 0 ≤ env 0) (b0 : env 0 ≤ 4294967295) (a1 : 0 ≤ env 1) (b1 : env 1 ≤ 255) : dt.holds env := by
  exact holds_fork
   (fun h0 => holds_fork
    (fun h1 => holds_true)
    (fun h1 => holds_fork
     (fun h2 => holds_true)
     (fun h2 => holds_fork
      (fun h3 => holds_true)
      (fun h3 => holds_fork
       (fun h4 => holds_true)
       (fun h4 => holds_fork
        (fun h5 => holds_out (by simp (disch := omega) only [e0, e1, e2, e3, e4, e5, den_iff, BE.P, IE.den, Bool.not_true, Bool.not_false, den_add, den_sub, den_mul, den_tdiv, den_tmod, den_min, den_max, den_and, and_low, and_31, and_63, wrap_u8, wrap_u16, wrap_u32, wrap_u64, wrap_i8, wrap_i16, wrap_i32, wrap_i64, Int.ofNat_eq_natCast, Int.tmod_eq_emod_of_nonneg, Int.tdiv_eq_ediv_of_nonneg] at h0 h1 h2 h3 h4 h5; omega))
        (fun h5 => holds_fork
         (fun h6 => holds_out (by simp (disch := omega) only [e0, e1, e2, e3, e4, e5, e6, den_iff, BE.P, IE.den, Bool.not_true, Bool.not_false, den_add, den_sub, den_mul, den_tdiv, den_tmod, den_min, den_max, den_and, and_low, and_31, and_63, wrap_u8, wrap_u16, wrap_u32, wrap_u64, wrap_i8, wrap_i16, wrap_i32, wrap_i64, Int.ofNat_eq_natCast, Int.tmod_eq_emod_of_nonneg, Int.tdiv_eq_ediv_of_nonneg] at h0 h1 h2 h3 h4 h5 h6; omega))
         (fun h6 => holds_true)))))))
   (fun h0 => holds_fork
    (fun h1 => holds_fork
     (fun h2 => holds_true)
     (fun h2 => holds_fork
      (fun h3 => holds_true)
      (fun h3 => holds_fork
       (fun h4 => holds_true)
       (fun h4 => holds_fork
        (fun h5 => holds_true)
        (fun h5 => holds_fork
         (fun h6 => holds_out (by simp (disch := omega) only [e0, e7, e1, e2, e3, e4, e8, den_iff, BE.P, IE.den, Bool.not_true, Bool.not_false, den_add, den_sub, den_mul, den_tdiv, den_tmod, den_min, den_max, den_and, and_low, and_31, and_63, wrap_u8, wrap_u16, wrap_u32, wrap_u64, wrap_i8, wrap_i16, wrap_i32, wrap_i64, Int.ofNat_eq_natCast, Int.tmod_eq_emod_of_nonneg, Int.tdiv_eq_ediv_of_nonneg] at h0 h1 h2 h3 h4 h5 h6; omega))
         (fun h6 => holds_fork
          (fun h7 => holds_out (by simp (disch := omega) only [e0, e7, e1, e2, e3, e4, e8, e9, den_iff, BE.P, IE.den, Bool.not_true, Bool.not_false, den_add, den_sub, den_mul, den_tdiv, den_tmod, den_min, den_max, den_and, and_low, and_31, and_63, wrap_u8, wrap_u16, wrap_u32, wrap_u64, wrap_i8, wrap_i16, wrap_i32, wrap_i64, Int.ofNat_eq_natCast, Int.tmod_eq_emod_of_nonneg, Int.tdiv_eq_ediv_of_nonneg] at h0 h1 h2 h3 h4 h5 h6 h7; omega))
          (fun h7 => holds_true)))))))
    (fun h1 => holds_fork
     (fun h2 => holds_fork
      (fun h3 => holds_true)
      (fun h3 => holds_fork
       (fun h4 => holds_true)
       (fun h4 => holds_fork
        (fun h5 => holds_true)
        (fun h5 => holds_fork
         (fun h6 => holds_true)
         (fun h6 => holds_fork
          (fun h7 => holds_out (by simp (disch := omega) only [e0, e7, e10, e1, e2, e3, e4, e11, den_iff, BE.P, IE.den, Bool.not_true, Bool.not_false, den_add, den_sub, den_mul, den_tdiv, den_tmod, den_min, den_max, den_and, and_low, and_31, and_63, wrap_u8, wrap_u16, wrap_u32, wrap_u64, wrap_i8, wrap_i16, wrap_i32, wrap_i64, Int.ofNat_eq_natCast, Int.tmod_eq_emod_of_nonneg, Int.tdiv_eq_ediv_of_nonneg] at h0 h1 h2 h3 h4 h5 h6 h7; omega))
          (fun h7 => holds_fork
           (fun h8 => holds_out (by simp (disch := omega) only [e0, e7, e10, e1, e2, e3, e4, e11, e12, den_iff, BE.P, IE.den, Bool.not_true, Bool.not_false, den_add, den_sub, den_mul, den_tdiv, den_tmod, den_min, den_max, den_and, and_low, and_31, and_63, wrap_u8, wrap_u16, wrap_u32, wrap_u64, wrap_i8, wrap_i16, wrap_i32, wrap_i64, Int.ofNat_eq_natCast, Int.tmod_eq_emod_of_nonneg, Int.tdiv_eq_ediv_of_nonneg] at h0 h1 h2 h3 h4 h5 h6 h7 h8; omega))
           (fun h8 => holds_true)))))))
     (fun h2 => holds_fork
      (fun h3 => holds_fork
       (fun h4 => holds_true)
       (fun h4 => holds_fork
        (fun h5 => holds_true)
        (fun h5 => holds_fork
         (fun h6 => holds_true)
         (fun h6 => holds_fork
          (fun h7 => holds_true)
          (fun h7 => holds_fork
           (fun h8 => holds_out (by simp (disch := omega) only [e0, e7, e10, e13, e1, e2, e3, e4, e14, den_iff, BE.P, IE.den, Bool.not_true, Bool.not_false, den_add, den_sub, den_mul, den_tdiv, den_tmod, den_min, den_max, den_and, and_low, and_31, and_63, wrap_u8, wrap_u16, wrap_u32, wrap_u64, wrap_i8, wrap_i16, wrap_i32, wrap_i64, Int.ofNat_eq_natCast, Int.tmod_eq_emod_of_nonneg, Int.tdiv_eq_ediv_of_nonneg] at h0 h1 h2 h3 h4 h5 h6 h7 h8; omega))
           (fun h8 => holds_fork
            (fun h9 => holds_out (by simp (disch := omega) only [e0, e7, e10, e13, e1, e2, e3, e4, e14, e15, den_iff, BE.P, IE.den, Bool.not_true, Bool.not_false, den_add, den_sub, den_mul, den_tdiv, den_tmod, den_min, den_max, den_and, and_low, and_31, and_63, wrap_u8, wrap_u16, wrap_u32, wrap_u64, wrap_i8, wrap_i16, wrap_i32, wrap_i64, Int.ofNat_eq_natCast, Int.tmod_eq_emod_of_nonneg, Int.tdiv_eq_ediv_of_nonneg] at h0 h1 h2 h3 h4 h5 h6 h7 h8 h9; omega))
            (fun h9 => holds_true)))))))
      (fun h3 => holds_fork
       (fun h4 => holds_fork
        (fun h5 => holds_true)
        (fun h5 => holds_fork
         (fun h6 => holds_true)
         (fun h6 => holds_fork
          (fun h7 => holds_true)
          (fun h7 => holds_fork
           (fun h8 => holds_true)
           (fun h8 => holds_fork
            (fun h9 => holds_out (by simp (disch := omega) only [e0, e7, e10, e13, e16, e1, e2, e3, e4, e17, den_iff, BE.P, IE.den, Bool.not_true, Bool.not_false, den_add, den_sub, den_mul, den_tdiv, den_tmod, den_min, den_max, den_and, and_low, and_31, and_63, wrap_u8, wrap_u16, wrap_u32, wrap_u64, wrap_i8, wrap_i16, wrap_i32, wrap_i64, Int.ofNat_eq_natCast, Int.tmod_eq_emod_of_nonneg, Int.tdiv_eq_ediv_of_nonneg] at h0 h1 h2 h3 h4 h5 h6 h7 h8 h9; omega))
            (fun h9 => holds_fork
             (fun h10 => holds_out (by simp (disch := omega) only [e0, e7, e10, e13, e16, e1, e2, e3, e4, e17, e18, den_iff, BE.P, IE.den, Bool.not_true, Bool.not_false, den_add, den_sub, den_mul, den_tdiv, den_tmod, den_min, den_max, den_and, and_low, and_31, and_63, wrap_u8, wrap_u16, wrap_u32, wrap_u64, wrap_i8, wrap_i16, wrap_i32, wrap_i64, Int.ofNat_eq_natCast, Int.tmod_eq_emod_of_nonneg, Int.tdiv_eq_ediv_of_nonneg] at h0 h1 h2 h3 h4 h5 h6 h7 h8 h9 h10; omega))
             (fun h10 => holds_true)))))))
       (fun h4 => holds_out (by simp (disch := omega) only [e0, e7, e10, e13, e16, den_iff, BE.P, IE.den, Bool.not_true, Bool.not_false, den_add, den_sub, den_mul, den_tdiv, den_tmod, den_min, den_max, den_and, and_low, and_31, and_63, wrap_u8, wrap_u16, wrap_u32, wrap_u64, wrap_i8, wrap_i16, wrap_i32, wrap_i64, Int.ofNat_eq_natCast, Int.tmod_eq_emod_of_nonneg, Int.tdiv_eq_ediv_of_nonneg] at h0 h1 h2 h3 h4; omega))))))
end Go.Vm.VStepTables
