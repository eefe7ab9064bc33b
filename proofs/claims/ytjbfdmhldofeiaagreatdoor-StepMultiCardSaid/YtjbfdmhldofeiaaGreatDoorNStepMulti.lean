/- The law StepMulti: what is to be shown of the numbers. -/
import Derived.Test.YtjbfdmhldofeiaaGreatDoorVStepMultiB
import Derived.Test.YtjbfdmhldofeiaaGreatDoorVmNums
set_option linter.unusedVariables false
set_option linter.unusedSimpArgs false
namespace Go.Vm.VStepMulti
open Go.Vm
theorem holds {env : Nat → Int} (a0 : 0 ≤ env 0) (b0 : env 0 ≤ 4294967295) (a1 : 0 ≤ env 1) (b1 : env 1 ≤ 4294967295) : dt.holds env := by
  exact holds_fork
   (fun h0 => holds_out (by simp (disch := omega) only [e0, den_iff, BE.P, IE.den, Bool.not_true, Bool.not_false, den_add, den_sub, den_mul, den_tdiv, den_tmod, den_min, den_max, den_and, and_low, and_31, and_63, wrap_u8, wrap_u16, wrap_u32, wrap_u64, wrap_i8, wrap_i16, wrap_i32, wrap_i64, Int.ofNat_eq_natCast, Int.tmod_eq_emod_of_nonneg, Int.tdiv_eq_ediv_of_nonneg] at h0; omega))
   (fun h0 => holds_fork
    (fun h1 => holds_out (by simp (disch := omega) only [e0, e1, den_iff, BE.P, IE.den, Bool.not_true, Bool.not_false, den_add, den_sub, den_mul, den_tdiv, den_tmod, den_min, den_max, den_and, and_low, and_31, and_63, wrap_u8, wrap_u16, wrap_u32, wrap_u64, wrap_i8, wrap_i16, wrap_i32, wrap_i64, Int.ofNat_eq_natCast, Int.tmod_eq_emod_of_nonneg, Int.tdiv_eq_ediv_of_nonneg] at h0 h1; omega))
    (fun h1 => holds_fork
     (fun h2 => holds_out (by simp (disch := omega) only [e0, e1, e2, den_iff, BE.P, IE.den, Bool.not_true, Bool.not_false, den_add, den_sub, den_mul, den_tdiv, den_tmod, den_min, den_max, den_and, and_low, and_31, and_63, wrap_u8, wrap_u16, wrap_u32, wrap_u64, wrap_i8, wrap_i16, wrap_i32, wrap_i64, Int.ofNat_eq_natCast, Int.tmod_eq_emod_of_nonneg, Int.tdiv_eq_ediv_of_nonneg] at h0 h1 h2; omega))
     (fun h2 => holds_true)))
end Go.Vm.VStepMulti
