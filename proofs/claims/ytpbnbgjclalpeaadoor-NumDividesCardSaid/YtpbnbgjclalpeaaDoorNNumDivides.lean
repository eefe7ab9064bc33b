/- The law NumDivides: what is to be shown of the numbers. -/
import Derived.Test.YtpbnbgjclalpeaaDoorVNumDividesB
import Derived.Test.YtpbnbgjclalpeaaDoorVmRot
set_option linter.unusedVariables false
set_option linter.unusedSimpArgs false
namespace Go.Vm.VNumDivides
open Go.Vm
section
variable {env : Nat → Int}
theorem ne_no {a b : IE} (h : a.den env = b.den env) : (BE.not (.eq a b)).den env = true → False := by
  intro e
  have e : (!ieqb (a.den env) (b.den env)) = true := e
  rw [h, ieqb_eq] at e
  simp at e
theorem core {M q q' b b' r r' a : Int} (hq : q' % M = q % M) (hb : b' % M = b % M) (hr : r' % M = r % M) (h : q * b + r = a) : ((q' * b') % M + r') % M = a % M := by
  have h1 : (q' * b') % M = (q * b) % M := by rw [Int.mul_emod, hq, hb, ← Int.mul_emod]
  rw [Int.add_emod, Int.emod_emod, h1, hr, ← Int.add_emod, h]
theorem S64 {Q B R C : IE} {q b r a : Int} (hq : Q.den env % 18446744073709551616 = q % 18446744073709551616) (hb : B.den env % 18446744073709551616 = b % 18446744073709551616) (hr : R.den env % 18446744073709551616 = r % 18446744073709551616)
    (h : q * b + r = a) (hc : C.den env = a % 18446744073709551616) : (BE.not (.eq (.wrap .u64 (.bin .add .u64 (.wrap .u64 (.bin .mul .u64 Q B)) R)) C)).den env = true → False := by
  refine ne_no ?_
  show wrapF .u64 (wrapF .u64 (Q.den env * B.den env) + R.den env) = _
  rw [wrap_u64, wrap_u64, hc]
  exact core hq hb hr h
theorem S32 {Q B R C : IE} {q b r a : Int} (hq : Q.den env % 4294967296 = q % 4294967296) (hb : B.den env % 4294967296 = b % 4294967296) (hr : R.den env % 4294967296 = r % 4294967296)
    (h : q * b + r = a) (hc : C.den env = a % 4294967296) : (BE.not (.eq (.wrap .u32 (.bin .add .u32 (.wrap .u32 (.bin .mul .u32 Q B)) R)) C)).den env = true → False := by
  refine ne_no ?_
  show wrapF .u32 (wrapF .u32 (Q.den env * B.den env) + R.den env) = _
  rw [wrap_u32, wrap_u32, hc]
  exact core hq hb hr h
theorem qr (a b : Int) : a.tdiv b * b + a.tmod b = a := by rw [Int.mul_comm]; exact Int.mul_tdiv_add_tmod a b
theorem no_lt {z : IE} : (BE.lt (.c (.ofNat 4294967295)) (.bin .and .u64 z (.c (.ofNat 4294967295)))).den env = true → False := by
  intro e
  have e : iltb 4294967295 (andF .u64 (z.den env) ((4294967295 : Nat) : Int)) = true := e
  rw [iltb_eq, and_low] at e
  simp at e
  omega
/-- The quotient and the remainder of numbers from nought on. -/
theorem small {a b : Int} (ha : 0 ≤ a) (hb : 0 ≤ b) : 0 ≤ a.tdiv b ∧ a.tdiv b ≤ a ∧ 0 ≤ a.tmod b ∧ a.tmod b ≤ a := by
  have h1 := Int.tdiv_nonneg ha hb
  have h2 : a.tdiv b ≤ a := Int.tdiv_le_self b ha
  have h3 : 0 ≤ a.tmod b := Int.tmod_nonneg b ha
  have h4 := qr a b
  have h5 := Int.mul_nonneg h1 hb
  exact ⟨h1, h2, h3, by omega⟩
abbrev y32 : IE := .bin .and .u64 (.wrap .u64 (.wrap .u32 (.v 1))) (.c (.ofNat 4294967295))
abbrev x32 : IE := .bin .and .u64 (.wrap .u64 (.wrap .u32 (.v 0))) (.c (.ofNat 4294967295))
theorem y32_den : y32.den env = env 1 % 4294967296 := by
  show andF .u64 (wrapF .u64 (wrapF .u32 (env 1))) ((4294967295 : Nat) : Int) = _
  rw [and_low, wrap_u64, wrap_u32]; omega
theorem x32_den : x32.den env = env 0 % 4294967296 := by
  show andF .u64 (wrapF .u64 (wrapF .u32 (env 0))) ((4294967295 : Nat) : Int) = _
  rw [and_low, wrap_u64, wrap_u32]; omega
abbrev ys : IE := .wrap .i64 (.wrap .i32 y32)
abbrev xs : IE := .wrap .i64 (.wrap .i32 x32)
theorem ys_den : ys.den env = (env 1 + 2147483648) % 4294967296 - 2147483648 := by
  show wrapF .i64 (wrapF .i32 (y32.den env)) = _
  rw [y32_den, wrap_i64, wrap_i32]; omega
theorem xs_den : xs.den env = (env 0 + 2147483648) % 4294967296 - 2147483648 := by
  show wrapF .i64 (wrapF .i32 (x32.den env)) = _
  rw [x32_den, wrap_i64, wrap_i32]; omega
theorem w64_den {k : Nat} : (IE.wrap .i64 (.v k)).den env = (env k + 9223372036854775808) % 18446744073709551616 - 9223372036854775808 := wrap_i64 _
/-- 64 bits, no signs. -/
theorem u64_no {A : IE} {a : Int} (hA : A.den env = a) (h0 : 0 ≤ a) (h1 : a < 18446744073709551616) {C : IE} (hC : C.den env = a) :
    (BE.not (.eq (.wrap .u64 (.bin .add .u64 (.wrap .u64 (.bin .mul .u64 (.wrap .u64 (.bin .tdiv .u64 A (.v 1))) (.v 1))) (.bin .tmod .u64 A (.v 1)))) C)).den env = true → False := by
  refine S64 (q := a.tdiv (env 1)) (b := env 1) (r := a.tmod (env 1)) (a := a) ?_ rfl ?_ (qr _ _) ?_
  · show wrapF .u64 ((A.den env).tdiv (env 1)) % _ = _
    rw [wrap_u64, hA, Int.emod_emod]
  · show ((A.den env).tmod (env 1)) % _ = _
    rw [hA]
  · rw [hC]; omega
/-- 64 bits, signs. -/
theorem s64_no {A : IE} {a : Int} (hA : A.den env = a) {C : IE} (hC : C.den env = a % 18446744073709551616) :
    (BE.not (.eq (.wrap .u64 (.bin .add .u64 (.wrap .u64 (.bin .mul .u64 (.wrap .u64 (.wrap .i64 (.bin .tdiv .i64 A (.wrap .i64 (.v 1))))) (.v 1))) (.wrap .u64 (.bin .tmod .i64 A (.wrap .i64 (.v 1)))))) C)).den env = true → False := by
  have hb := w64_den (env := env) (k := 1)
  generalize hbb : (IE.wrap .i64 (.v 1)).den env = b at hb
  refine S64 (q := a.tdiv b) (b := b) (r := a.tmod b) (a := a) ?_ ?_ ?_ (qr _ _) hC
  · show wrapF .u64 (wrapF .i64 ((A.den env).tdiv ((IE.wrap .i64 (.v 1)).den env))) % _ = _
    rw [wrap_u64, wrap_i64, hA, hbb]
    generalize a.tdiv b = q
    omega
  · show env 1 % _ = b % _
    omega
  · show wrapF .u64 ((A.den env).tmod ((IE.wrap .i64 (.v 1)).den env)) % _ = _
    rw [wrap_u64, hA, hbb, Int.emod_emod]
theorem s64m_no (a0 : 0 ≤ env 0) (b0 : env 0 ≤ 18446744073709551615) (a1 : 0 ≤ env 1) (b1 : env 1 ≤ 18446744073709551615) (h : e3.den env = true) : e13.den env = true → False := by
  have h : ieqb ((IE.wrap .i64 (.v 1)).den env) (-1) = true := h
  rw [ieqb_eq, w64_den] at h
  have h := (beq_iff_eq (α := Int)).1 h
  have hx := w64_den (env := env) (k := 0)
  generalize hxx : (IE.wrap .i64 (.v 0)).den env = a at hx
  refine S64 (q := a.tdiv (-1)) (b := -1) (r := a.tmod (-1)) (a := a) ?_ ?_ ?_ (qr _ _) ?_
  · show wrapF .u64 (wrapF .i64 (((IE.wrap .i64 (.v 0)).den env).tdiv (-1))) % _ = _
    rw [wrap_u64, wrap_i64, hxx]
    generalize a.tdiv (-1) = q
    omega
  · show env 1 % _ = _
    omega
  · show (0 : Int) % _ = _
    rw [Int.tmod_neg, Int.tmod_one]
  · show env 0 = _
    omega
/-- 32 bits, no signs. -/
theorem u32_no {A : IE} {a : Int} (hA : A.den env = a) (h0 : 0 ≤ a) (h1 : a < 4294967296) {C : IE} (hC : C.den env = a) :
    (BE.not (.eq (.wrap .u64 (.bin .add .u64 (.wrap .u64 (.bin .mul .u64 (.bin .and .u64 (.wrap .u64 (.bin .tdiv .u64 A y32)) (.c (.ofNat 4294967295))) (.wrap .u64 (.wrap .u32 (.v 1))))) (.bin .and .u64 (.bin .tmod .u64 A y32) (.c (.ofNat 4294967295))))) C)).den env = true → False := by
  have hy := y32_den (env := env)
  generalize hyy : y32.den env = b at hy
  obtain ⟨s1, s2, s3, s4⟩ := small (a := a) (b := b) h0 (by omega)
  refine S64 (q := a.tdiv b) (b := b) (r := a.tmod b) (a := a) ?_ ?_ ?_ (qr _ _) ?_
  · show andF .u64 (wrapF .u64 ((A.den env).tdiv (y32.den env))) ((4294967295 : Nat) : Int) % _ = _
    rw [and_low, wrap_u64, hA, hyy]
    generalize a.tdiv b = q at *
    omega
  · show wrapF .u64 (wrapF .u32 (env 1)) % _ = _
    rw [wrap_u64, wrap_u32]
    omega
  · show andF .u64 ((A.den env).tmod (y32.den env)) ((4294967295 : Nat) : Int) % _ = _
    rw [and_low, hA, hyy]
    generalize a.tmod b = r at *
    omega
  · rw [hC]; omega
/-- 32 bits, signs. -/
theorem s32_no {A : IE} {a : Int} (hA : A.den env = a) {C : IE} (hC : C.den env = a % 4294967296) :
    (BE.not (.eq (.wrap .u32 (.bin .add .u32 (.wrap .u32 (.bin .mul .u32 (.wrap .u32 (.bin .and .u64 (.wrap .u64 (.wrap .i64 (.bin .tdiv .i64 A ys))) (.c (.ofNat 4294967295)))) (.wrap .u32 (.wrap .u64 (.wrap .u32 (.v 1)))))) (.wrap .u32 (.bin .and .u64 (.wrap .u64 (.bin .tmod .i64 A ys)) (.c (.ofNat 4294967295)))))) C)).den env = true → False := by
  have hb := ys_den (env := env)
  generalize hbb : ys.den env = b at hb
  refine S32 (q := a.tdiv b) (b := b) (r := a.tmod b) (a := a) ?_ ?_ ?_ (qr _ _) hC
  · show wrapF .u32 (andF .u64 (wrapF .u64 (wrapF .i64 ((A.den env).tdiv (ys.den env)))) ((4294967295 : Nat) : Int)) % _ = _
    rw [wrap_u32, and_low, wrap_u64, wrap_i64, hA, hbb]
    generalize a.tdiv b = q
    omega
  · show wrapF .u32 (wrapF .u64 (wrapF .u32 (env 1))) % _ = _
    rw [wrap_u32, wrap_u64, wrap_u32]
    omega
  · show wrapF .u32 (andF .u64 (wrapF .u64 ((A.den env).tmod (ys.den env))) ((4294967295 : Nat) : Int)) % _ = _
    rw [wrap_u32, and_low, wrap_u64, hA, hbb]
    generalize a.tmod b = r
    omega
theorem s32m_no (h : e0.den env = true) : e24.den env = true → False := by
  have h : ieqb (ys.den env) (-1) = true := h
  rw [ieqb_eq, ys_den] at h
  have h := (beq_iff_eq (α := Int)).1 h
  have hx := xs_den (env := env)
  generalize hxx : xs.den env = a at hx
  refine S32 (q := a.tdiv (-1)) (b := -1) (r := a.tmod (-1)) (a := a) ?_ ?_ ?_ (qr _ _) ?_
  · show wrapF .u32 (andF .u64 (wrapF .u64 (wrapF .i64 ((xs.den env).tdiv (-1)))) ((4294967295 : Nat) : Int)) % _ = _
    rw [wrap_u32, and_low, wrap_u64, wrap_i64, hxx]
    generalize a.tdiv (-1) = q
    omega
  · show wrapF .u32 (wrapF .u64 (wrapF .u32 (env 1))) % _ = _
    rw [wrap_u32, wrap_u64, wrap_u32]
    omega
  · show (0 : Int) % _ = _
    rw [Int.tmod_neg, Int.tmod_one]
  · show wrapF .u32 (wrapF .u64 (wrapF .u32 (env 0))) = _
    rw [wrap_u32, wrap_u64, wrap_u32]
    omega
/-- A remainder is less than what it is of. -/
theorem rem_lt {a b : Int} (h0 : 0 ≤ a) (hb : 0 < b) : a.tmod b < b := Int.tmod_lt_of_pos a hb
theorem r64_no {A : IE} {a : Int} (hA : A.den env = a) (h0 : 0 ≤ a) (hy : 0 < env 1) : (BE.le (.v 1) (.bin .tmod .u64 A (.v 1))).den env = true → False := by
  intro e
  have e : ileb (env 1) ((A.den env).tmod (env 1)) = true := e
  rw [ileb_eq, hA] at e
  have := rem_lt h0 hy
  simp at e
  omega
theorem r32_no {A : IE} {a : Int} (hA : A.den env = a) (h0 : 0 ≤ a) (hy : 0 < env 1 % 4294967296) : (BE.le (.wrap .u64 (.wrap .u32 (.v 1))) (.bin .and .u64 (.bin .tmod .u64 A y32) (.c (.ofNat 4294967295)))).den env = true → False := by
  intro e
  have e : ileb (wrapF .u64 (wrapF .u32 (env 1))) (andF .u64 ((A.den env).tmod (y32.den env)) ((4294967295 : Nat) : Int)) = true := e
  rw [ileb_eq, and_low, wrap_u64, wrap_u32, hA, y32_den] at e
  have h1 := rem_lt h0 hy
  have h2 := (small h0 (b := env 1 % 4294967296) (by omega)).2.2.1
  generalize a.tmod (env 1 % 4294967296) = r at *
  have e := of_decide_eq_true e
  omega
theorem y_pos (a1 : 0 ≤ env 1) (h : e4.den env = false) : 0 < env 1 := by
  simp only [e4, den_iff, BE.P, IE.den, Int.ofNat_eq_natCast] at h; omega
theorem y32_pos (h : e2.den env = false) : 0 < env 1 % 4294967296 := by
  simp only [e2, den_iff, BE.P, IE.den, wrap_u64, wrap_u32, Int.ofNat_eq_natCast] at h; omega
theorem x32_lt : 0 ≤ env 0 % 4294967296 ∧ env 0 % 4294967296 < 4294967296 := by omega
theorem wx_den : (IE.wrap .u64 (.wrap .u32 (.v 0))).den env = env 0 % 4294967296 := by
  show wrapF .u64 (wrapF .u32 (env 0)) = _
  rw [wrap_u64, wrap_u32]; omega
theorem wwx_den : (IE.wrap .u32 (.wrap .u64 (.wrap .u32 (.v 0)))).den env = ((env 0 + 2147483648) % 4294967296 - 2147483648) % 4294967296 := by
  show wrapF .u32 (wrapF .u64 (wrapF .u32 (env 0))) = _
  rw [wrap_u32, wrap_u64, wrap_u32]; omega
theorem n28 : e28.den env = true → False := by
  refine S32 (q := 0) (b := env 1 % 4294967296) (r := 0) (a := 0) rfl ?_ rfl (by omega) rfl
  show wrapF .u32 (wrapF .u64 (wrapF .u32 (env 1))) % _ = _
  rw [wrap_u32, wrap_u64, wrap_u32]; omega
end
set_option maxRecDepth 100000 in
theorem holds {env : Nat → Int} (a0 : 0 ≤ env 0) (b0 : env 0 ≤ 18446744073709551615) (a1 : 0 ≤ env 1) (b1 : env 1 ≤ 18446744073709551615) : dt.holds env := by
  exact holds_fork
   (fun h0 => holds_fork
    (fun h1 => holds_fork
     (fun h2 => holds_fork
      (fun h3 => holds_fork
       (fun h4 => holds_true)
       (fun h4 => holds_fork
        (fun h5 => holds_fork
         (fun h6 => holds_fork
          (fun h7 => holds_out (u64_no (a := 9223372036854775808) (A := .c (.ofNat 9223372036854775808)) rfl (by decide) (by decide) rfl h7))
          (fun h7 => holds_fork
           (fun h8 => holds_out (r64_no (a := 9223372036854775808) (A := .c (.ofNat 9223372036854775808)) rfl (by decide) (y_pos a1 h4) h8))
           (fun h8 => holds_fork
            (fun h9 => holds_out (by simp (disch := omega) only [e0, e1, e2, e3, e4, e5, e6, e9, den_iff, BE.P, IE.den, Bool.not_true, Bool.not_false, den_add, den_sub, den_mul, den_tdiv, den_tmod, den_min, den_max, den_and, and_low, and_31, and_63, and_i31, and_i63, wrap_u8, wrap_u16, wrap_u32, wrap_u64, wrap_i8, wrap_i16, wrap_i32, wrap_i64, Int.ofNat_eq_natCast, Int.tmod_eq_emod_of_nonneg] at h0 h1 h2 h3 h4 h5 h6 h9; omega))
            (fun h9 => holds_fork
             (fun h10 => holds_true)
             (fun h10 => holds_out (by simp (disch := omega) only [e0, e1, e2, e3, e4, e5, e6, e9, e10, den_iff, BE.P, IE.den, Bool.not_true, Bool.not_false, den_add, den_sub, den_mul, den_tdiv, den_tmod, den_min, den_max, den_and, and_low, and_31, and_63, and_i31, and_i63, wrap_u8, wrap_u16, wrap_u32, wrap_u64, wrap_i8, wrap_i16, wrap_i32, wrap_i64, Int.ofNat_eq_natCast, Int.tmod_eq_emod_of_nonneg] at h0 h1 h2 h3 h4 h5 h6 h9 h10; omega))))))
         (fun h6 => holds_fork
          (fun h7 => holds_out (u64_no (a := env 0) (A := .v 0) rfl a0 (by omega) rfl h7))
          (fun h7 => holds_fork
           (fun h8 => holds_out (r64_no (a := env 0) (A := .v 0) rfl a0 (y_pos a1 h4) h8))
           (fun h8 => holds_out (by simp (disch := omega) only [e0, e1, e2, e3, e4, e5, e6, den_iff, BE.P, IE.den, Bool.not_true, Bool.not_false, den_add, den_sub, den_mul, den_tdiv, den_tmod, den_min, den_max, den_and, and_low, and_31, and_63, and_i31, and_i63, wrap_u8, wrap_u16, wrap_u32, wrap_u64, wrap_i8, wrap_i16, wrap_i32, wrap_i64, Int.ofNat_eq_natCast, Int.tmod_eq_emod_of_nonneg] at h0 h1 h2 h3 h4 h5 h6; omega)))))
        (fun h5 => holds_fork
         (fun h6 => holds_fork
          (fun h7 => holds_out (u64_no (a := 9223372036854775808) (A := .c (.ofNat 9223372036854775808)) rfl (by decide) (by decide) rfl h7))
          (fun h7 => holds_fork
           (fun h8 => holds_out (r64_no (a := 9223372036854775808) (A := .c (.ofNat 9223372036854775808)) rfl (by decide) (y_pos a1 h4) h8))
           (fun h8 => holds_fork
            (fun h9 => holds_out (by simp (disch := omega) only [e0, e1, e2, e3, e4, e5, e6, e9, den_iff, BE.P, IE.den, Bool.not_true, Bool.not_false, den_add, den_sub, den_mul, den_tdiv, den_tmod, den_min, den_max, den_and, and_low, and_31, and_63, and_i31, and_i63, wrap_u8, wrap_u16, wrap_u32, wrap_u64, wrap_i8, wrap_i16, wrap_i32, wrap_i64, Int.ofNat_eq_natCast, Int.tmod_eq_emod_of_nonneg] at h0 h1 h2 h3 h4 h5 h6 h9; omega))
            (fun h9 => holds_fork
             (fun h10 => holds_true)
             (fun h10 => holds_out (by simp (disch := omega) only [e0, e1, e2, e3, e4, e5, e6, e9, e10, den_iff, BE.P, IE.den, Bool.not_true, Bool.not_false, den_add, den_sub, den_mul, den_tdiv, den_tmod, den_min, den_max, den_and, and_low, and_31, and_63, and_i31, and_i63, wrap_u8, wrap_u16, wrap_u32, wrap_u64, wrap_i8, wrap_i16, wrap_i32, wrap_i64, Int.ofNat_eq_natCast, Int.tmod_eq_emod_of_nonneg] at h0 h1 h2 h3 h4 h5 h6 h9 h10; omega))))))
         (fun h6 => holds_fork
          (fun h7 => holds_out (u64_no (a := env 0) (A := .v 0) rfl a0 (by omega) rfl h7))
          (fun h7 => holds_fork
           (fun h8 => holds_out (r64_no (a := env 0) (A := .v 0) rfl a0 (y_pos a1 h4) h8))
           (fun h8 => holds_fork
            (fun h9 => holds_out (s64m_no a0 b0 a1 b1 h3 h9))
            (fun h9 => holds_true)))))))
      (fun h3 => holds_fork
       (fun h4 => holds_true)
       (fun h4 => holds_fork
        (fun h5 => holds_out (by simp (disch := omega) only [e0, e1, e2, e3, e4, e14, den_iff, BE.P, IE.den, Bool.not_true, Bool.not_false, den_add, den_sub, den_mul, den_tdiv, den_tmod, den_min, den_max, den_and, and_low, and_31, and_63, and_i31, and_i63, wrap_u8, wrap_u16, wrap_u32, wrap_u64, wrap_i8, wrap_i16, wrap_i32, wrap_i64, Int.ofNat_eq_natCast, Int.tmod_eq_emod_of_nonneg] at h0 h1 h2 h3 h4 h5; omega))
        (fun h5 => holds_fork
         (fun h6 => holds_fork
          (fun h7 => holds_out (u64_no (a := 9223372036854775808) (A := .c (.ofNat 9223372036854775808)) rfl (by decide) (by decide) rfl h7))
          (fun h7 => holds_fork
           (fun h8 => holds_out (r64_no (a := 9223372036854775808) (A := .c (.ofNat 9223372036854775808)) rfl (by decide) (y_pos a1 h4) h8))
           (fun h8 => holds_fork
            (fun h9 => holds_true)
            (fun h9 => holds_fork
             (fun h10 => holds_out (s64_no (a := -9223372036854775808) (A := .c (.negSucc 9223372036854775807)) rfl rfl h10))
             (fun h10 => holds_true)))))
         (fun h6 => holds_fork
          (fun h7 => holds_out (u64_no (a := env 0) (A := .v 0) rfl a0 (by omega) rfl h7))
          (fun h7 => holds_fork
           (fun h8 => holds_out (r64_no (a := env 0) (A := .v 0) rfl a0 (y_pos a1 h4) h8))
           (fun h8 => holds_fork
            (fun h9 => holds_out (s64_no (A := .wrap .i64 (.v 0)) w64_den (by show env 0 = _; omega) h9))
            (fun h9 => holds_true))))))))
     (fun h2 => holds_fork
      (fun h3 => holds_fork
       (fun h4 => holds_fork
        (fun h5 => holds_fork
         (fun h6 => holds_true)
         (fun h6 => holds_fork
          (fun h7 => holds_fork
           (fun h8 => holds_fork
            (fun h9 => holds_out (u64_no (a := 9223372036854775808) (A := .c (.ofNat 9223372036854775808)) rfl (by decide) (by decide) rfl h9))
            (fun h9 => holds_fork
             (fun h10 => holds_out (r64_no (a := 9223372036854775808) (A := .c (.ofNat 9223372036854775808)) rfl (by decide) (y_pos a1 h6) h10))
             (fun h10 => holds_fork
              (fun h11 => holds_out (by simp (disch := omega) only [e0, e1, e2, e17, e18, e3, e4, e5, e6, e9, den_iff, BE.P, IE.den, Bool.not_true, Bool.not_false, den_add, den_sub, den_mul, den_tdiv, den_tmod, den_min, den_max, den_and, and_low, and_31, and_63, and_i31, and_i63, wrap_u8, wrap_u16, wrap_u32, wrap_u64, wrap_i8, wrap_i16, wrap_i32, wrap_i64, Int.ofNat_eq_natCast, Int.tmod_eq_emod_of_nonneg] at h0 h1 h2 h3 h4 h5 h6 h7 h8 h11; omega))
              (fun h11 => holds_fork
               (fun h12 => holds_true)
               (fun h12 => holds_out (by simp (disch := omega) only [e0, e1, e2, e17, e18, e3, e4, e5, e6, e9, e10, den_iff, BE.P, IE.den, Bool.not_true, Bool.not_false, den_add, den_sub, den_mul, den_tdiv, den_tmod, den_min, den_max, den_and, and_low, and_31, and_63, and_i31, and_i63, wrap_u8, wrap_u16, wrap_u32, wrap_u64, wrap_i8, wrap_i16, wrap_i32, wrap_i64, Int.ofNat_eq_natCast, Int.tmod_eq_emod_of_nonneg] at h0 h1 h2 h3 h4 h5 h6 h7 h8 h11 h12; omega))))))
           (fun h8 => holds_fork
            (fun h9 => holds_out (u64_no (a := env 0) (A := .v 0) rfl a0 (by omega) rfl h9))
            (fun h9 => holds_fork
             (fun h10 => holds_out (r64_no (a := env 0) (A := .v 0) rfl a0 (y_pos a1 h6) h10))
             (fun h10 => holds_out (by simp (disch := omega) only [e0, e1, e2, e17, e18, e3, e4, e5, e6, den_iff, BE.P, IE.den, Bool.not_true, Bool.not_false, den_add, den_sub, den_mul, den_tdiv, den_tmod, den_min, den_max, den_and, and_low, and_31, and_63, and_i31, and_i63, wrap_u8, wrap_u16, wrap_u32, wrap_u64, wrap_i8, wrap_i16, wrap_i32, wrap_i64, Int.ofNat_eq_natCast, Int.tmod_eq_emod_of_nonneg] at h0 h1 h2 h3 h4 h5 h6 h7 h8; omega)))))
          (fun h7 => holds_fork
           (fun h8 => holds_fork
            (fun h9 => holds_out (u64_no (a := 9223372036854775808) (A := .c (.ofNat 9223372036854775808)) rfl (by decide) (by decide) rfl h9))
            (fun h9 => holds_fork
             (fun h10 => holds_out (r64_no (a := 9223372036854775808) (A := .c (.ofNat 9223372036854775808)) rfl (by decide) (y_pos a1 h6) h10))
             (fun h10 => holds_fork
              (fun h11 => holds_out (by simp (disch := omega) only [e0, e1, e2, e17, e18, e3, e4, e5, e6, e9, den_iff, BE.P, IE.den, Bool.not_true, Bool.not_false, den_add, den_sub, den_mul, den_tdiv, den_tmod, den_min, den_max, den_and, and_low, and_31, and_63, and_i31, and_i63, wrap_u8, wrap_u16, wrap_u32, wrap_u64, wrap_i8, wrap_i16, wrap_i32, wrap_i64, Int.ofNat_eq_natCast, Int.tmod_eq_emod_of_nonneg] at h0 h1 h2 h3 h4 h5 h6 h7 h8 h11; omega))
              (fun h11 => holds_fork
               (fun h12 => holds_true)
               (fun h12 => holds_out (by simp (disch := omega) only [e0, e1, e2, e17, e18, e3, e4, e5, e6, e9, e10, den_iff, BE.P, IE.den, Bool.not_true, Bool.not_false, den_add, den_sub, den_mul, den_tdiv, den_tmod, den_min, den_max, den_and, and_low, and_31, and_63, and_i31, and_i63, wrap_u8, wrap_u16, wrap_u32, wrap_u64, wrap_i8, wrap_i16, wrap_i32, wrap_i64, Int.ofNat_eq_natCast, Int.tmod_eq_emod_of_nonneg] at h0 h1 h2 h3 h4 h5 h6 h7 h8 h11 h12; omega))))))
           (fun h8 => holds_fork
            (fun h9 => holds_out (u64_no (a := env 0) (A := .v 0) rfl a0 (by omega) rfl h9))
            (fun h9 => holds_fork
             (fun h10 => holds_out (r64_no (a := env 0) (A := .v 0) rfl a0 (y_pos a1 h6) h10))
             (fun h10 => holds_fork
              (fun h11 => holds_out (s64m_no a0 b0 a1 b1 h5 h11))
              (fun h11 => holds_true)))))))
        (fun h5 => holds_fork
         (fun h6 => holds_true)
         (fun h6 => holds_fork
          (fun h7 => holds_out (by simp (disch := omega) only [e0, e1, e2, e17, e18, e3, e4, e14, den_iff, BE.P, IE.den, Bool.not_true, Bool.not_false, den_add, den_sub, den_mul, den_tdiv, den_tmod, den_min, den_max, den_and, and_low, and_31, and_63, and_i31, and_i63, wrap_u8, wrap_u16, wrap_u32, wrap_u64, wrap_i8, wrap_i16, wrap_i32, wrap_i64, Int.ofNat_eq_natCast, Int.tmod_eq_emod_of_nonneg] at h0 h1 h2 h3 h4 h5 h6 h7; omega))
          (fun h7 => holds_fork
           (fun h8 => holds_fork
            (fun h9 => holds_out (u64_no (a := 9223372036854775808) (A := .c (.ofNat 9223372036854775808)) rfl (by decide) (by decide) rfl h9))
            (fun h9 => holds_fork
             (fun h10 => holds_out (r64_no (a := 9223372036854775808) (A := .c (.ofNat 9223372036854775808)) rfl (by decide) (y_pos a1 h6) h10))
             (fun h10 => holds_fork
              (fun h11 => holds_true)
              (fun h11 => holds_fork
               (fun h12 => holds_out (s64_no (a := -9223372036854775808) (A := .c (.negSucc 9223372036854775807)) rfl rfl h12))
               (fun h12 => holds_true)))))
           (fun h8 => holds_fork
            (fun h9 => holds_out (u64_no (a := env 0) (A := .v 0) rfl a0 (by omega) rfl h9))
            (fun h9 => holds_fork
             (fun h10 => holds_out (r64_no (a := env 0) (A := .v 0) rfl a0 (y_pos a1 h6) h10))
             (fun h10 => holds_fork
              (fun h11 => holds_out (s64_no (A := .wrap .i64 (.v 0)) w64_den (by show env 0 = _; omega) h11))
              (fun h11 => holds_true))))))))
       (fun h4 => holds_out (by simp (disch := omega) only [e0, e1, e2, e17, e18, den_iff, BE.P, IE.den, Bool.not_true, Bool.not_false, den_add, den_sub, den_mul, den_tdiv, den_tmod, den_min, den_max, den_and, and_low, and_31, and_63, and_i31, and_i63, wrap_u8, wrap_u16, wrap_u32, wrap_u64, wrap_i8, wrap_i16, wrap_i32, wrap_i64, Int.ofNat_eq_natCast, Int.tmod_eq_emod_of_nonneg] at h0 h1 h2 h3 h4; omega)))
      (fun h3 => holds_out (by simp (disch := omega) only [e0, e1, e2, e17, den_iff, BE.P, IE.den, Bool.not_true, Bool.not_false, den_add, den_sub, den_mul, den_tdiv, den_tmod, den_min, den_max, den_and, and_low, and_31, and_63, and_i31, and_i63, wrap_u8, wrap_u16, wrap_u32, wrap_u64, wrap_i8, wrap_i16, wrap_i32, wrap_i64, Int.ofNat_eq_natCast, Int.tmod_eq_emod_of_nonneg] at h0 h1 h2 h3; omega))))
    (fun h1 => holds_fork
     (fun h2 => holds_fork
      (fun h3 => holds_fork
       (fun h4 => holds_fork
        (fun h5 => holds_true)
        (fun h5 => holds_fork
         (fun h6 => holds_fork
          (fun h7 => holds_fork
           (fun h8 => holds_out (u64_no (a := 9223372036854775808) (A := .c (.ofNat 9223372036854775808)) rfl (by decide) (by decide) rfl h8))
           (fun h8 => holds_fork
            (fun h9 => holds_out (r64_no (a := 9223372036854775808) (A := .c (.ofNat 9223372036854775808)) rfl (by decide) (y_pos a1 h5) h9))
            (fun h9 => holds_fork
             (fun h10 => holds_out (by simp (disch := omega) only [e0, e1, e19, e2, e3, e4, e5, e6, e9, den_iff, BE.P, IE.den, Bool.not_true, Bool.not_false, den_add, den_sub, den_mul, den_tdiv, den_tmod, den_min, den_max, den_and, and_low, and_31, and_63, and_i31, and_i63, wrap_u8, wrap_u16, wrap_u32, wrap_u64, wrap_i8, wrap_i16, wrap_i32, wrap_i64, Int.ofNat_eq_natCast, Int.tmod_eq_emod_of_nonneg] at h0 h1 h2 h3 h4 h5 h6 h7 h10; omega))
             (fun h10 => holds_fork
              (fun h11 => holds_true)
              (fun h11 => holds_out (by simp (disch := omega) only [e0, e1, e19, e2, e3, e4, e5, e6, e9, e10, den_iff, BE.P, IE.den, Bool.not_true, Bool.not_false, den_add, den_sub, den_mul, den_tdiv, den_tmod, den_min, den_max, den_and, and_low, and_31, and_63, and_i31, and_i63, wrap_u8, wrap_u16, wrap_u32, wrap_u64, wrap_i8, wrap_i16, wrap_i32, wrap_i64, Int.ofNat_eq_natCast, Int.tmod_eq_emod_of_nonneg] at h0 h1 h2 h3 h4 h5 h6 h7 h10 h11; omega))))))
          (fun h7 => holds_fork
           (fun h8 => holds_out (u64_no (a := env 0) (A := .v 0) rfl a0 (by omega) rfl h8))
           (fun h8 => holds_fork
            (fun h9 => holds_out (r64_no (a := env 0) (A := .v 0) rfl a0 (y_pos a1 h5) h9))
            (fun h9 => holds_out (by simp (disch := omega) only [e0, e1, e19, e2, e3, e4, e5, e6, den_iff, BE.P, IE.den, Bool.not_true, Bool.not_false, den_add, den_sub, den_mul, den_tdiv, den_tmod, den_min, den_max, den_and, and_low, and_31, and_63, and_i31, and_i63, wrap_u8, wrap_u16, wrap_u32, wrap_u64, wrap_i8, wrap_i16, wrap_i32, wrap_i64, Int.ofNat_eq_natCast, Int.tmod_eq_emod_of_nonneg] at h0 h1 h2 h3 h4 h5 h6 h7; omega)))))
         (fun h6 => holds_fork
          (fun h7 => holds_fork
           (fun h8 => holds_out (u64_no (a := 9223372036854775808) (A := .c (.ofNat 9223372036854775808)) rfl (by decide) (by decide) rfl h8))
           (fun h8 => holds_fork
            (fun h9 => holds_out (r64_no (a := 9223372036854775808) (A := .c (.ofNat 9223372036854775808)) rfl (by decide) (y_pos a1 h5) h9))
            (fun h9 => holds_fork
             (fun h10 => holds_out (by simp (disch := omega) only [e0, e1, e19, e2, e3, e4, e5, e6, e9, den_iff, BE.P, IE.den, Bool.not_true, Bool.not_false, den_add, den_sub, den_mul, den_tdiv, den_tmod, den_min, den_max, den_and, and_low, and_31, and_63, and_i31, and_i63, wrap_u8, wrap_u16, wrap_u32, wrap_u64, wrap_i8, wrap_i16, wrap_i32, wrap_i64, Int.ofNat_eq_natCast, Int.tmod_eq_emod_of_nonneg] at h0 h1 h2 h3 h4 h5 h6 h7 h10; omega))
             (fun h10 => holds_fork
              (fun h11 => holds_true)
              (fun h11 => holds_out (by simp (disch := omega) only [e0, e1, e19, e2, e3, e4, e5, e6, e9, e10, den_iff, BE.P, IE.den, Bool.not_true, Bool.not_false, den_add, den_sub, den_mul, den_tdiv, den_tmod, den_min, den_max, den_and, and_low, and_31, and_63, and_i31, and_i63, wrap_u8, wrap_u16, wrap_u32, wrap_u64, wrap_i8, wrap_i16, wrap_i32, wrap_i64, Int.ofNat_eq_natCast, Int.tmod_eq_emod_of_nonneg] at h0 h1 h2 h3 h4 h5 h6 h7 h10 h11; omega))))))
          (fun h7 => holds_fork
           (fun h8 => holds_out (u64_no (a := env 0) (A := .v 0) rfl a0 (by omega) rfl h8))
           (fun h8 => holds_fork
            (fun h9 => holds_out (r64_no (a := env 0) (A := .v 0) rfl a0 (y_pos a1 h5) h9))
            (fun h9 => holds_fork
             (fun h10 => holds_out (s64m_no a0 b0 a1 b1 h4 h10))
             (fun h10 => holds_true)))))))
       (fun h4 => holds_fork
        (fun h5 => holds_true)
        (fun h5 => holds_fork
         (fun h6 => holds_out (by simp (disch := omega) only [e0, e1, e19, e2, e3, e4, e14, den_iff, BE.P, IE.den, Bool.not_true, Bool.not_false, den_add, den_sub, den_mul, den_tdiv, den_tmod, den_min, den_max, den_and, and_low, and_31, and_63, and_i31, and_i63, wrap_u8, wrap_u16, wrap_u32, wrap_u64, wrap_i8, wrap_i16, wrap_i32, wrap_i64, Int.ofNat_eq_natCast, Int.tmod_eq_emod_of_nonneg] at h0 h1 h2 h3 h4 h5 h6; omega))
         (fun h6 => holds_fork
          (fun h7 => holds_fork
           (fun h8 => holds_out (u64_no (a := 9223372036854775808) (A := .c (.ofNat 9223372036854775808)) rfl (by decide) (by decide) rfl h8))
           (fun h8 => holds_fork
            (fun h9 => holds_out (r64_no (a := 9223372036854775808) (A := .c (.ofNat 9223372036854775808)) rfl (by decide) (y_pos a1 h5) h9))
            (fun h9 => holds_fork
             (fun h10 => holds_true)
             (fun h10 => holds_fork
              (fun h11 => holds_out (s64_no (a := -9223372036854775808) (A := .c (.negSucc 9223372036854775807)) rfl rfl h11))
              (fun h11 => holds_true)))))
          (fun h7 => holds_fork
           (fun h8 => holds_out (u64_no (a := env 0) (A := .v 0) rfl a0 (by omega) rfl h8))
           (fun h8 => holds_fork
            (fun h9 => holds_out (r64_no (a := env 0) (A := .v 0) rfl a0 (y_pos a1 h5) h9))
            (fun h9 => holds_fork
             (fun h10 => holds_out (s64_no (A := .wrap .i64 (.v 0)) w64_den (by show env 0 = _; omega) h10))
             (fun h10 => holds_true))))))))
      (fun h3 => holds_fork
       (fun h4 => holds_fork
        (fun h5 => holds_fork
         (fun h6 => holds_fork
          (fun h7 => holds_true)
          (fun h7 => holds_fork
           (fun h8 => holds_fork
            (fun h9 => holds_fork
             (fun h10 => holds_out (u64_no (a := 9223372036854775808) (A := .c (.ofNat 9223372036854775808)) rfl (by decide) (by decide) rfl h10))
             (fun h10 => holds_fork
              (fun h11 => holds_out (r64_no (a := 9223372036854775808) (A := .c (.ofNat 9223372036854775808)) rfl (by decide) (y_pos a1 h7) h11))
              (fun h11 => holds_fork
               (fun h12 => holds_out (by simp (disch := omega) only [e0, e1, e19, e2, e17, e18, e3, e4, e5, e6, e9, den_iff, BE.P, IE.den, Bool.not_true, Bool.not_false, den_add, den_sub, den_mul, den_tdiv, den_tmod, den_min, den_max, den_and, and_low, and_31, and_63, and_i31, and_i63, wrap_u8, wrap_u16, wrap_u32, wrap_u64, wrap_i8, wrap_i16, wrap_i32, wrap_i64, Int.ofNat_eq_natCast, Int.tmod_eq_emod_of_nonneg] at h0 h1 h2 h3 h4 h5 h6 h7 h8 h9 h12; omega))
               (fun h12 => holds_fork
                (fun h13 => holds_true)
                (fun h13 => holds_out (by simp (disch := omega) only [e0, e1, e19, e2, e17, e18, e3, e4, e5, e6, e9, e10, den_iff, BE.P, IE.den, Bool.not_true, Bool.not_false, den_add, den_sub, den_mul, den_tdiv, den_tmod, den_min, den_max, den_and, and_low, and_31, and_63, and_i31, and_i63, wrap_u8, wrap_u16, wrap_u32, wrap_u64, wrap_i8, wrap_i16, wrap_i32, wrap_i64, Int.ofNat_eq_natCast, Int.tmod_eq_emod_of_nonneg] at h0 h1 h2 h3 h4 h5 h6 h7 h8 h9 h12 h13; omega))))))
            (fun h9 => holds_fork
             (fun h10 => holds_out (u64_no (a := env 0) (A := .v 0) rfl a0 (by omega) rfl h10))
             (fun h10 => holds_fork
              (fun h11 => holds_out (r64_no (a := env 0) (A := .v 0) rfl a0 (y_pos a1 h7) h11))
              (fun h11 => holds_out (by simp (disch := omega) only [e0, e1, e19, e2, e17, e18, e3, e4, e5, e6, den_iff, BE.P, IE.den, Bool.not_true, Bool.not_false, den_add, den_sub, den_mul, den_tdiv, den_tmod, den_min, den_max, den_and, and_low, and_31, and_63, and_i31, and_i63, wrap_u8, wrap_u16, wrap_u32, wrap_u64, wrap_i8, wrap_i16, wrap_i32, wrap_i64, Int.ofNat_eq_natCast, Int.tmod_eq_emod_of_nonneg] at h0 h1 h2 h3 h4 h5 h6 h7 h8 h9; omega)))))
           (fun h8 => holds_fork
            (fun h9 => holds_fork
             (fun h10 => holds_out (u64_no (a := 9223372036854775808) (A := .c (.ofNat 9223372036854775808)) rfl (by decide) (by decide) rfl h10))
             (fun h10 => holds_fork
              (fun h11 => holds_out (r64_no (a := 9223372036854775808) (A := .c (.ofNat 9223372036854775808)) rfl (by decide) (y_pos a1 h7) h11))
              (fun h11 => holds_fork
               (fun h12 => holds_out (by simp (disch := omega) only [e0, e1, e19, e2, e17, e18, e3, e4, e5, e6, e9, den_iff, BE.P, IE.den, Bool.not_true, Bool.not_false, den_add, den_sub, den_mul, den_tdiv, den_tmod, den_min, den_max, den_and, and_low, and_31, and_63, and_i31, and_i63, wrap_u8, wrap_u16, wrap_u32, wrap_u64, wrap_i8, wrap_i16, wrap_i32, wrap_i64, Int.ofNat_eq_natCast, Int.tmod_eq_emod_of_nonneg] at h0 h1 h2 h3 h4 h5 h6 h7 h8 h9 h12; omega))
               (fun h12 => holds_fork
                (fun h13 => holds_true)
                (fun h13 => holds_out (by simp (disch := omega) only [e0, e1, e19, e2, e17, e18, e3, e4, e5, e6, e9, e10, den_iff, BE.P, IE.den, Bool.not_true, Bool.not_false, den_add, den_sub, den_mul, den_tdiv, den_tmod, den_min, den_max, den_and, and_low, and_31, and_63, and_i31, and_i63, wrap_u8, wrap_u16, wrap_u32, wrap_u64, wrap_i8, wrap_i16, wrap_i32, wrap_i64, Int.ofNat_eq_natCast, Int.tmod_eq_emod_of_nonneg] at h0 h1 h2 h3 h4 h5 h6 h7 h8 h9 h12 h13; omega))))))
            (fun h9 => holds_fork
             (fun h10 => holds_out (u64_no (a := env 0) (A := .v 0) rfl a0 (by omega) rfl h10))
             (fun h10 => holds_fork
              (fun h11 => holds_out (r64_no (a := env 0) (A := .v 0) rfl a0 (y_pos a1 h7) h11))
              (fun h11 => holds_fork
               (fun h12 => holds_out (s64m_no a0 b0 a1 b1 h6 h12))
               (fun h12 => holds_true)))))))
         (fun h6 => holds_fork
          (fun h7 => holds_true)
          (fun h7 => holds_fork
           (fun h8 => holds_out (by simp (disch := omega) only [e0, e1, e19, e2, e17, e18, e3, e4, e14, den_iff, BE.P, IE.den, Bool.not_true, Bool.not_false, den_add, den_sub, den_mul, den_tdiv, den_tmod, den_min, den_max, den_and, and_low, and_31, and_63, and_i31, and_i63, wrap_u8, wrap_u16, wrap_u32, wrap_u64, wrap_i8, wrap_i16, wrap_i32, wrap_i64, Int.ofNat_eq_natCast, Int.tmod_eq_emod_of_nonneg] at h0 h1 h2 h3 h4 h5 h6 h7 h8; omega))
           (fun h8 => holds_fork
            (fun h9 => holds_fork
             (fun h10 => holds_out (u64_no (a := 9223372036854775808) (A := .c (.ofNat 9223372036854775808)) rfl (by decide) (by decide) rfl h10))
             (fun h10 => holds_fork
              (fun h11 => holds_out (r64_no (a := 9223372036854775808) (A := .c (.ofNat 9223372036854775808)) rfl (by decide) (y_pos a1 h7) h11))
              (fun h11 => holds_fork
               (fun h12 => holds_true)
               (fun h12 => holds_fork
                (fun h13 => holds_out (s64_no (a := -9223372036854775808) (A := .c (.negSucc 9223372036854775807)) rfl rfl h13))
                (fun h13 => holds_true)))))
            (fun h9 => holds_fork
             (fun h10 => holds_out (u64_no (a := env 0) (A := .v 0) rfl a0 (by omega) rfl h10))
             (fun h10 => holds_fork
              (fun h11 => holds_out (r64_no (a := env 0) (A := .v 0) rfl a0 (y_pos a1 h7) h11))
              (fun h11 => holds_fork
               (fun h12 => holds_out (s64_no (A := .wrap .i64 (.v 0)) w64_den (by show env 0 = _; omega) h12))
               (fun h12 => holds_true))))))))
        (fun h5 => holds_fork
         (fun h6 => holds_out (u32_no (a := 2147483648) (A := .c (.ofNat 2147483648)) rfl (by decide) (by decide) rfl h6))
         (fun h6 => holds_fork
          (fun h7 => holds_out (r32_no (a := 2147483648) (A := .c (.ofNat 2147483648)) rfl (by decide) (y32_pos h3) h7))
          (fun h7 => holds_out (by simp (disch := omega) only [e0, e1, e19, e2, e17, e18, den_iff, BE.P, IE.den, Bool.not_true, Bool.not_false, den_add, den_sub, den_mul, den_tdiv, den_tmod, den_min, den_max, den_and, and_low, and_31, and_63, and_i31, and_i63, wrap_u8, wrap_u16, wrap_u32, wrap_u64, wrap_i8, wrap_i16, wrap_i32, wrap_i64, Int.ofNat_eq_natCast, Int.tmod_eq_emod_of_nonneg] at h0 h1 h2 h3 h4 h5; omega)))))
       (fun h4 => holds_fork
        (fun h5 => holds_out (u32_no (A := x32) x32_den x32_lt.1 x32_lt.2 wx_den h5))
        (fun h5 => holds_fork
         (fun h6 => holds_out (r32_no (A := x32) x32_den x32_lt.1 (y32_pos h3) h6))
         (fun h6 => holds_out (by simp (disch := omega) only [e0, e1, e19, e2, e17, den_iff, BE.P, IE.den, Bool.not_true, Bool.not_false, den_add, den_sub, den_mul, den_tdiv, den_tmod, den_min, den_max, den_and, and_low, and_31, and_63, and_i31, and_i63, wrap_u8, wrap_u16, wrap_u32, wrap_u64, wrap_i8, wrap_i16, wrap_i32, wrap_i64, Int.ofNat_eq_natCast, Int.tmod_eq_emod_of_nonneg] at h0 h1 h2 h3 h4; omega))))))
     (fun h2 => holds_fork
      (fun h3 => holds_fork
       (fun h4 => holds_fork
        (fun h5 => holds_true)
        (fun h5 => holds_fork
         (fun h6 => holds_fork
          (fun h7 => holds_fork
           (fun h8 => holds_out (u64_no (a := 9223372036854775808) (A := .c (.ofNat 9223372036854775808)) rfl (by decide) (by decide) rfl h8))
           (fun h8 => holds_fork
            (fun h9 => holds_out (r64_no (a := 9223372036854775808) (A := .c (.ofNat 9223372036854775808)) rfl (by decide) (y_pos a1 h5) h9))
            (fun h9 => holds_fork
             (fun h10 => holds_out (by simp (disch := omega) only [e0, e1, e19, e2, e3, e4, e5, e6, e9, den_iff, BE.P, IE.den, Bool.not_true, Bool.not_false, den_add, den_sub, den_mul, den_tdiv, den_tmod, den_min, den_max, den_and, and_low, and_31, and_63, and_i31, and_i63, wrap_u8, wrap_u16, wrap_u32, wrap_u64, wrap_i8, wrap_i16, wrap_i32, wrap_i64, Int.ofNat_eq_natCast, Int.tmod_eq_emod_of_nonneg] at h0 h1 h2 h3 h4 h5 h6 h7 h10; omega))
             (fun h10 => holds_fork
              (fun h11 => holds_true)
              (fun h11 => holds_out (by simp (disch := omega) only [e0, e1, e19, e2, e3, e4, e5, e6, e9, e10, den_iff, BE.P, IE.den, Bool.not_true, Bool.not_false, den_add, den_sub, den_mul, den_tdiv, den_tmod, den_min, den_max, den_and, and_low, and_31, and_63, and_i31, and_i63, wrap_u8, wrap_u16, wrap_u32, wrap_u64, wrap_i8, wrap_i16, wrap_i32, wrap_i64, Int.ofNat_eq_natCast, Int.tmod_eq_emod_of_nonneg] at h0 h1 h2 h3 h4 h5 h6 h7 h10 h11; omega))))))
          (fun h7 => holds_fork
           (fun h8 => holds_out (u64_no (a := env 0) (A := .v 0) rfl a0 (by omega) rfl h8))
           (fun h8 => holds_fork
            (fun h9 => holds_out (r64_no (a := env 0) (A := .v 0) rfl a0 (y_pos a1 h5) h9))
            (fun h9 => holds_out (by simp (disch := omega) only [e0, e1, e19, e2, e3, e4, e5, e6, den_iff, BE.P, IE.den, Bool.not_true, Bool.not_false, den_add, den_sub, den_mul, den_tdiv, den_tmod, den_min, den_max, den_and, and_low, and_31, and_63, and_i31, and_i63, wrap_u8, wrap_u16, wrap_u32, wrap_u64, wrap_i8, wrap_i16, wrap_i32, wrap_i64, Int.ofNat_eq_natCast, Int.tmod_eq_emod_of_nonneg] at h0 h1 h2 h3 h4 h5 h6 h7; omega)))))
         (fun h6 => holds_fork
          (fun h7 => holds_fork
           (fun h8 => holds_out (u64_no (a := 9223372036854775808) (A := .c (.ofNat 9223372036854775808)) rfl (by decide) (by decide) rfl h8))
           (fun h8 => holds_fork
            (fun h9 => holds_out (r64_no (a := 9223372036854775808) (A := .c (.ofNat 9223372036854775808)) rfl (by decide) (y_pos a1 h5) h9))
            (fun h9 => holds_fork
             (fun h10 => holds_out (by simp (disch := omega) only [e0, e1, e19, e2, e3, e4, e5, e6, e9, den_iff, BE.P, IE.den, Bool.not_true, Bool.not_false, den_add, den_sub, den_mul, den_tdiv, den_tmod, den_min, den_max, den_and, and_low, and_31, and_63, and_i31, and_i63, wrap_u8, wrap_u16, wrap_u32, wrap_u64, wrap_i8, wrap_i16, wrap_i32, wrap_i64, Int.ofNat_eq_natCast, Int.tmod_eq_emod_of_nonneg] at h0 h1 h2 h3 h4 h5 h6 h7 h10; omega))
             (fun h10 => holds_fork
              (fun h11 => holds_true)
              (fun h11 => holds_out (by simp (disch := omega) only [e0, e1, e19, e2, e3, e4, e5, e6, e9, e10, den_iff, BE.P, IE.den, Bool.not_true, Bool.not_false, den_add, den_sub, den_mul, den_tdiv, den_tmod, den_min, den_max, den_and, and_low, and_31, and_63, and_i31, and_i63, wrap_u8, wrap_u16, wrap_u32, wrap_u64, wrap_i8, wrap_i16, wrap_i32, wrap_i64, Int.ofNat_eq_natCast, Int.tmod_eq_emod_of_nonneg] at h0 h1 h2 h3 h4 h5 h6 h7 h10 h11; omega))))))
          (fun h7 => holds_fork
           (fun h8 => holds_out (u64_no (a := env 0) (A := .v 0) rfl a0 (by omega) rfl h8))
           (fun h8 => holds_fork
            (fun h9 => holds_out (r64_no (a := env 0) (A := .v 0) rfl a0 (y_pos a1 h5) h9))
            (fun h9 => holds_fork
             (fun h10 => holds_out (s64m_no a0 b0 a1 b1 h4 h10))
             (fun h10 => holds_true)))))))
       (fun h4 => holds_fork
        (fun h5 => holds_true)
        (fun h5 => holds_fork
         (fun h6 => holds_out (by simp (disch := omega) only [e0, e1, e19, e2, e3, e4, e14, den_iff, BE.P, IE.den, Bool.not_true, Bool.not_false, den_add, den_sub, den_mul, den_tdiv, den_tmod, den_min, den_max, den_and, and_low, and_31, and_63, and_i31, and_i63, wrap_u8, wrap_u16, wrap_u32, wrap_u64, wrap_i8, wrap_i16, wrap_i32, wrap_i64, Int.ofNat_eq_natCast, Int.tmod_eq_emod_of_nonneg] at h0 h1 h2 h3 h4 h5 h6; omega))
         (fun h6 => holds_fork
          (fun h7 => holds_fork
           (fun h8 => holds_out (u64_no (a := 9223372036854775808) (A := .c (.ofNat 9223372036854775808)) rfl (by decide) (by decide) rfl h8))
           (fun h8 => holds_fork
            (fun h9 => holds_out (r64_no (a := 9223372036854775808) (A := .c (.ofNat 9223372036854775808)) rfl (by decide) (y_pos a1 h5) h9))
            (fun h9 => holds_fork
             (fun h10 => holds_true)
             (fun h10 => holds_fork
              (fun h11 => holds_out (s64_no (a := -9223372036854775808) (A := .c (.negSucc 9223372036854775807)) rfl rfl h11))
              (fun h11 => holds_true)))))
          (fun h7 => holds_fork
           (fun h8 => holds_out (u64_no (a := env 0) (A := .v 0) rfl a0 (by omega) rfl h8))
           (fun h8 => holds_fork
            (fun h9 => holds_out (r64_no (a := env 0) (A := .v 0) rfl a0 (y_pos a1 h5) h9))
            (fun h9 => holds_fork
             (fun h10 => holds_out (s64_no (A := .wrap .i64 (.v 0)) w64_den (by show env 0 = _; omega) h10))
             (fun h10 => holds_true))))))))
      (fun h3 => holds_fork
       (fun h4 => holds_fork
        (fun h5 => holds_fork
         (fun h6 => holds_fork
          (fun h7 => holds_true)
          (fun h7 => holds_fork
           (fun h8 => holds_fork
            (fun h9 => holds_fork
             (fun h10 => holds_out (u64_no (a := 9223372036854775808) (A := .c (.ofNat 9223372036854775808)) rfl (by decide) (by decide) rfl h10))
             (fun h10 => holds_fork
              (fun h11 => holds_out (r64_no (a := 9223372036854775808) (A := .c (.ofNat 9223372036854775808)) rfl (by decide) (y_pos a1 h7) h11))
              (fun h11 => holds_fork
               (fun h12 => holds_out (by simp (disch := omega) only [e0, e1, e19, e2, e17, e18, e3, e4, e5, e6, e9, den_iff, BE.P, IE.den, Bool.not_true, Bool.not_false, den_add, den_sub, den_mul, den_tdiv, den_tmod, den_min, den_max, den_and, and_low, and_31, and_63, and_i31, and_i63, wrap_u8, wrap_u16, wrap_u32, wrap_u64, wrap_i8, wrap_i16, wrap_i32, wrap_i64, Int.ofNat_eq_natCast, Int.tmod_eq_emod_of_nonneg] at h0 h1 h2 h3 h4 h5 h6 h7 h8 h9 h12; omega))
               (fun h12 => holds_fork
                (fun h13 => holds_true)
                (fun h13 => holds_out (by simp (disch := omega) only [e0, e1, e19, e2, e17, e18, e3, e4, e5, e6, e9, e10, den_iff, BE.P, IE.den, Bool.not_true, Bool.not_false, den_add, den_sub, den_mul, den_tdiv, den_tmod, den_min, den_max, den_and, and_low, and_31, and_63, and_i31, and_i63, wrap_u8, wrap_u16, wrap_u32, wrap_u64, wrap_i8, wrap_i16, wrap_i32, wrap_i64, Int.ofNat_eq_natCast, Int.tmod_eq_emod_of_nonneg] at h0 h1 h2 h3 h4 h5 h6 h7 h8 h9 h12 h13; omega))))))
            (fun h9 => holds_fork
             (fun h10 => holds_out (u64_no (a := env 0) (A := .v 0) rfl a0 (by omega) rfl h10))
             (fun h10 => holds_fork
              (fun h11 => holds_out (r64_no (a := env 0) (A := .v 0) rfl a0 (y_pos a1 h7) h11))
              (fun h11 => holds_out (by simp (disch := omega) only [e0, e1, e19, e2, e17, e18, e3, e4, e5, e6, den_iff, BE.P, IE.den, Bool.not_true, Bool.not_false, den_add, den_sub, den_mul, den_tdiv, den_tmod, den_min, den_max, den_and, and_low, and_31, and_63, and_i31, and_i63, wrap_u8, wrap_u16, wrap_u32, wrap_u64, wrap_i8, wrap_i16, wrap_i32, wrap_i64, Int.ofNat_eq_natCast, Int.tmod_eq_emod_of_nonneg] at h0 h1 h2 h3 h4 h5 h6 h7 h8 h9; omega)))))
           (fun h8 => holds_fork
            (fun h9 => holds_fork
             (fun h10 => holds_out (u64_no (a := 9223372036854775808) (A := .c (.ofNat 9223372036854775808)) rfl (by decide) (by decide) rfl h10))
             (fun h10 => holds_fork
              (fun h11 => holds_out (r64_no (a := 9223372036854775808) (A := .c (.ofNat 9223372036854775808)) rfl (by decide) (y_pos a1 h7) h11))
              (fun h11 => holds_fork
               (fun h12 => holds_out (by simp (disch := omega) only [e0, e1, e19, e2, e17, e18, e3, e4, e5, e6, e9, den_iff, BE.P, IE.den, Bool.not_true, Bool.not_false, den_add, den_sub, den_mul, den_tdiv, den_tmod, den_min, den_max, den_and, and_low, and_31, and_63, and_i31, and_i63, wrap_u8, wrap_u16, wrap_u32, wrap_u64, wrap_i8, wrap_i16, wrap_i32, wrap_i64, Int.ofNat_eq_natCast, Int.tmod_eq_emod_of_nonneg] at h0 h1 h2 h3 h4 h5 h6 h7 h8 h9 h12; omega))
               (fun h12 => holds_fork
                (fun h13 => holds_true)
                (fun h13 => holds_out (by simp (disch := omega) only [e0, e1, e19, e2, e17, e18, e3, e4, e5, e6, e9, e10, den_iff, BE.P, IE.den, Bool.not_true, Bool.not_false, den_add, den_sub, den_mul, den_tdiv, den_tmod, den_min, den_max, den_and, and_low, and_31, and_63, and_i31, and_i63, wrap_u8, wrap_u16, wrap_u32, wrap_u64, wrap_i8, wrap_i16, wrap_i32, wrap_i64, Int.ofNat_eq_natCast, Int.tmod_eq_emod_of_nonneg] at h0 h1 h2 h3 h4 h5 h6 h7 h8 h9 h12 h13; omega))))))
            (fun h9 => holds_fork
             (fun h10 => holds_out (u64_no (a := env 0) (A := .v 0) rfl a0 (by omega) rfl h10))
             (fun h10 => holds_fork
              (fun h11 => holds_out (r64_no (a := env 0) (A := .v 0) rfl a0 (y_pos a1 h7) h11))
              (fun h11 => holds_fork
               (fun h12 => holds_out (s64m_no a0 b0 a1 b1 h6 h12))
               (fun h12 => holds_true)))))))
         (fun h6 => holds_fork
          (fun h7 => holds_true)
          (fun h7 => holds_fork
           (fun h8 => holds_out (by simp (disch := omega) only [e0, e1, e19, e2, e17, e18, e3, e4, e14, den_iff, BE.P, IE.den, Bool.not_true, Bool.not_false, den_add, den_sub, den_mul, den_tdiv, den_tmod, den_min, den_max, den_and, and_low, and_31, and_63, and_i31, and_i63, wrap_u8, wrap_u16, wrap_u32, wrap_u64, wrap_i8, wrap_i16, wrap_i32, wrap_i64, Int.ofNat_eq_natCast, Int.tmod_eq_emod_of_nonneg] at h0 h1 h2 h3 h4 h5 h6 h7 h8; omega))
           (fun h8 => holds_fork
            (fun h9 => holds_fork
             (fun h10 => holds_out (u64_no (a := 9223372036854775808) (A := .c (.ofNat 9223372036854775808)) rfl (by decide) (by decide) rfl h10))
             (fun h10 => holds_fork
              (fun h11 => holds_out (r64_no (a := 9223372036854775808) (A := .c (.ofNat 9223372036854775808)) rfl (by decide) (y_pos a1 h7) h11))
              (fun h11 => holds_fork
               (fun h12 => holds_true)
               (fun h12 => holds_fork
                (fun h13 => holds_out (s64_no (a := -9223372036854775808) (A := .c (.negSucc 9223372036854775807)) rfl rfl h13))
                (fun h13 => holds_true)))))
            (fun h9 => holds_fork
             (fun h10 => holds_out (u64_no (a := env 0) (A := .v 0) rfl a0 (by omega) rfl h10))
             (fun h10 => holds_fork
              (fun h11 => holds_out (r64_no (a := env 0) (A := .v 0) rfl a0 (y_pos a1 h7) h11))
              (fun h11 => holds_fork
               (fun h12 => holds_out (s64_no (A := .wrap .i64 (.v 0)) w64_den (by show env 0 = _; omega) h12))
               (fun h12 => holds_true))))))))
        (fun h5 => holds_fork
         (fun h6 => holds_out (u32_no (a := 2147483648) (A := .c (.ofNat 2147483648)) rfl (by decide) (by decide) rfl h6))
         (fun h6 => holds_fork
          (fun h7 => holds_out (r32_no (a := 2147483648) (A := .c (.ofNat 2147483648)) rfl (by decide) (y32_pos h3) h7))
          (fun h7 => holds_out (by simp (disch := omega) only [e0, e1, e19, e2, e17, e18, den_iff, BE.P, IE.den, Bool.not_true, Bool.not_false, den_add, den_sub, den_mul, den_tdiv, den_tmod, den_min, den_max, den_and, and_low, and_31, and_63, and_i31, and_i63, wrap_u8, wrap_u16, wrap_u32, wrap_u64, wrap_i8, wrap_i16, wrap_i32, wrap_i64, Int.ofNat_eq_natCast, Int.tmod_eq_emod_of_nonneg] at h0 h1 h2 h3 h4 h5; omega)))))
       (fun h4 => holds_fork
        (fun h5 => holds_out (u32_no (A := x32) x32_den x32_lt.1 x32_lt.2 wx_den h5))
        (fun h5 => holds_fork
         (fun h6 => holds_out (r32_no (A := x32) x32_den x32_lt.1 (y32_pos h3) h6))
         (fun h6 => holds_fork
          (fun h7 => holds_out (s32m_no h0 h7))
          (fun h7 => holds_fork
           (fun h8 => holds_out (no_lt h8))
           (fun h8 => holds_fork
            (fun h9 => holds_fork
             (fun h10 => holds_true)
             (fun h10 => holds_fork
              (fun h11 => holds_fork
               (fun h12 => holds_fork
                (fun h13 => holds_out (u32_no (a := 0) (A := .c (.ofNat 0)) rfl (by decide) (by decide) rfl h13))
                (fun h13 => holds_fork
                 (fun h14 => holds_out (r32_no (a := 0) (A := .c (.ofNat 0)) rfl (by decide) (y32_pos h3) h14))
                 (fun h14 => holds_fork
                  (fun h15 => holds_out (n28 h15))
                  (fun h15 => holds_fork
                   (fun h16 => holds_out (u64_no (a := 9223372036854775808) (A := .c (.ofNat 9223372036854775808)) rfl (by decide) (by decide) rfl h16))
                   (fun h16 => holds_fork
                    (fun h17 => holds_out (r64_no (a := 9223372036854775808) (A := .c (.ofNat 9223372036854775808)) rfl (by decide) (y_pos a1 h10) h17))
                    (fun h17 => holds_fork
                     (fun h18 => holds_out (by simp (disch := omega) only [e0, e1, e19, e2, e17, e3, e4, e5, e6, e9, den_iff, BE.P, IE.den, Bool.not_true, Bool.not_false, den_add, den_sub, den_mul, den_tdiv, den_tmod, den_min, den_max, den_and, and_low, and_31, and_63, and_i31, and_i63, wrap_u8, wrap_u16, wrap_u32, wrap_u64, wrap_i8, wrap_i16, wrap_i32, wrap_i64, Int.ofNat_eq_natCast, Int.tmod_eq_emod_of_nonneg] at h0 h1 h2 h3 h4 h9 h10 h11 h12 h18; omega))
                     (fun h18 => holds_fork
                      (fun h19 => holds_true)
                      (fun h19 => holds_out (by simp (disch := omega) only [e0, e1, e19, e2, e17, e3, e4, e5, e6, e9, e10, den_iff, BE.P, IE.den, Bool.not_true, Bool.not_false, den_add, den_sub, den_mul, den_tdiv, den_tmod, den_min, den_max, den_and, and_low, and_31, and_63, and_i31, and_i63, wrap_u8, wrap_u16, wrap_u32, wrap_u64, wrap_i8, wrap_i16, wrap_i32, wrap_i64, Int.ofNat_eq_natCast, Int.tmod_eq_emod_of_nonneg] at h0 h1 h2 h3 h4 h9 h10 h11 h12 h18 h19; omega)))))))))
               (fun h12 => holds_fork
                (fun h13 => holds_out (u64_no (a := env 0) (A := .v 0) rfl a0 (by omega) rfl h13))
                (fun h13 => holds_fork
                 (fun h14 => holds_out (r64_no (a := env 0) (A := .v 0) rfl a0 (y_pos a1 h10) h14))
                 (fun h14 => holds_out (by simp (disch := omega) only [e0, e1, e19, e2, e17, e3, e4, e5, e6, den_iff, BE.P, IE.den, Bool.not_true, Bool.not_false, den_add, den_sub, den_mul, den_tdiv, den_tmod, den_min, den_max, den_and, and_low, and_31, and_63, and_i31, and_i63, wrap_u8, wrap_u16, wrap_u32, wrap_u64, wrap_i8, wrap_i16, wrap_i32, wrap_i64, Int.ofNat_eq_natCast, Int.tmod_eq_emod_of_nonneg] at h0 h1 h2 h3 h4 h9 h10 h11 h12; omega)))))
              (fun h11 => holds_fork
               (fun h12 => holds_fork
                (fun h13 => holds_out (u32_no (a := 0) (A := .c (.ofNat 0)) rfl (by decide) (by decide) rfl h13))
                (fun h13 => holds_fork
                 (fun h14 => holds_out (r32_no (a := 0) (A := .c (.ofNat 0)) rfl (by decide) (y32_pos h3) h14))
                 (fun h14 => holds_fork
                  (fun h15 => holds_out (n28 h15))
                  (fun h15 => holds_fork
                   (fun h16 => holds_out (u64_no (a := 9223372036854775808) (A := .c (.ofNat 9223372036854775808)) rfl (by decide) (by decide) rfl h16))
                   (fun h16 => holds_fork
                    (fun h17 => holds_out (r64_no (a := 9223372036854775808) (A := .c (.ofNat 9223372036854775808)) rfl (by decide) (y_pos a1 h10) h17))
                    (fun h17 => holds_fork
                     (fun h18 => holds_out (by simp (disch := omega) only [e0, e1, e19, e2, e17, e3, e4, e5, e6, e9, den_iff, BE.P, IE.den, Bool.not_true, Bool.not_false, den_add, den_sub, den_mul, den_tdiv, den_tmod, den_min, den_max, den_and, and_low, and_31, and_63, and_i31, and_i63, wrap_u8, wrap_u16, wrap_u32, wrap_u64, wrap_i8, wrap_i16, wrap_i32, wrap_i64, Int.ofNat_eq_natCast, Int.tmod_eq_emod_of_nonneg] at h0 h1 h2 h3 h4 h9 h10 h11 h12 h18; omega))
                     (fun h18 => holds_fork
                      (fun h19 => holds_true)
                      (fun h19 => holds_out (by simp (disch := omega) only [e0, e1, e19, e2, e17, e3, e4, e5, e6, e9, e10, den_iff, BE.P, IE.den, Bool.not_true, Bool.not_false, den_add, den_sub, den_mul, den_tdiv, den_tmod, den_min, den_max, den_and, and_low, and_31, and_63, and_i31, and_i63, wrap_u8, wrap_u16, wrap_u32, wrap_u64, wrap_i8, wrap_i16, wrap_i32, wrap_i64, Int.ofNat_eq_natCast, Int.tmod_eq_emod_of_nonneg] at h0 h1 h2 h3 h4 h9 h10 h11 h12 h18 h19; omega)))))))))
               (fun h12 => holds_fork
                (fun h13 => holds_out (u64_no (a := env 0) (A := .v 0) rfl a0 (by omega) rfl h13))
                (fun h13 => holds_fork
                 (fun h14 => holds_out (r64_no (a := env 0) (A := .v 0) rfl a0 (y_pos a1 h10) h14))
                 (fun h14 => holds_fork
                  (fun h15 => holds_out (s64m_no a0 b0 a1 b1 h9 h15))
                  (fun h15 => holds_true)))))))
            (fun h9 => holds_fork
             (fun h10 => holds_true)
             (fun h10 => holds_fork
              (fun h11 => holds_out (by simp (disch := omega) only [e0, e1, e19, e2, e17, e3, e4, e14, den_iff, BE.P, IE.den, Bool.not_true, Bool.not_false, den_add, den_sub, den_mul, den_tdiv, den_tmod, den_min, den_max, den_and, and_low, and_31, and_63, and_i31, and_i63, wrap_u8, wrap_u16, wrap_u32, wrap_u64, wrap_i8, wrap_i16, wrap_i32, wrap_i64, Int.ofNat_eq_natCast, Int.tmod_eq_emod_of_nonneg] at h0 h1 h2 h3 h4 h9 h10 h11; omega))
              (fun h11 => holds_fork
               (fun h12 => holds_fork
                (fun h13 => holds_out (u32_no (a := 0) (A := .c (.ofNat 0)) rfl (by decide) (by decide) rfl h13))
                (fun h13 => holds_fork
                 (fun h14 => holds_out (r32_no (a := 0) (A := .c (.ofNat 0)) rfl (by decide) (y32_pos h3) h14))
                 (fun h14 => holds_fork
                  (fun h15 => holds_out (n28 h15))
                  (fun h15 => holds_fork
                   (fun h16 => holds_out (u64_no (a := 9223372036854775808) (A := .c (.ofNat 9223372036854775808)) rfl (by decide) (by decide) rfl h16))
                   (fun h16 => holds_fork
                    (fun h17 => holds_out (r64_no (a := 9223372036854775808) (A := .c (.ofNat 9223372036854775808)) rfl (by decide) (y_pos a1 h10) h17))
                    (fun h17 => holds_fork
                     (fun h18 => holds_true)
                     (fun h18 => holds_fork
                      (fun h19 => holds_out (s64_no (a := -9223372036854775808) (A := .c (.negSucc 9223372036854775807)) rfl rfl h19))
                      (fun h19 => holds_true))))))))
               (fun h12 => holds_fork
                (fun h13 => holds_out (u64_no (a := env 0) (A := .v 0) rfl a0 (by omega) rfl h13))
                (fun h13 => holds_fork
                 (fun h14 => holds_out (r64_no (a := env 0) (A := .v 0) rfl a0 (y_pos a1 h10) h14))
                 (fun h14 => holds_fork
                  (fun h15 => holds_out (s64_no (A := .wrap .i64 (.v 0)) w64_den (by show env 0 = _; omega) h15))
                  (fun h15 => holds_true))))))))))))))))
   (fun h0 => holds_fork
    (fun h1 => holds_fork
     (fun h2 => holds_fork
      (fun h3 => holds_fork
       (fun h4 => holds_true)
       (fun h4 => holds_fork
        (fun h5 => holds_fork
         (fun h6 => holds_fork
          (fun h7 => holds_out (u64_no (a := 9223372036854775808) (A := .c (.ofNat 9223372036854775808)) rfl (by decide) (by decide) rfl h7))
          (fun h7 => holds_fork
           (fun h8 => holds_out (r64_no (a := 9223372036854775808) (A := .c (.ofNat 9223372036854775808)) rfl (by decide) (y_pos a1 h4) h8))
           (fun h8 => holds_fork
            (fun h9 => holds_out (by simp (disch := omega) only [e0, e1, e2, e3, e4, e5, e6, e9, den_iff, BE.P, IE.den, Bool.not_true, Bool.not_false, den_add, den_sub, den_mul, den_tdiv, den_tmod, den_min, den_max, den_and, and_low, and_31, and_63, and_i31, and_i63, wrap_u8, wrap_u16, wrap_u32, wrap_u64, wrap_i8, wrap_i16, wrap_i32, wrap_i64, Int.ofNat_eq_natCast, Int.tmod_eq_emod_of_nonneg] at h0 h1 h2 h3 h4 h5 h6 h9; omega))
            (fun h9 => holds_fork
             (fun h10 => holds_true)
             (fun h10 => holds_out (by simp (disch := omega) only [e0, e1, e2, e3, e4, e5, e6, e9, e10, den_iff, BE.P, IE.den, Bool.not_true, Bool.not_false, den_add, den_sub, den_mul, den_tdiv, den_tmod, den_min, den_max, den_and, and_low, and_31, and_63, and_i31, and_i63, wrap_u8, wrap_u16, wrap_u32, wrap_u64, wrap_i8, wrap_i16, wrap_i32, wrap_i64, Int.ofNat_eq_natCast, Int.tmod_eq_emod_of_nonneg] at h0 h1 h2 h3 h4 h5 h6 h9 h10; omega))))))
         (fun h6 => holds_fork
          (fun h7 => holds_out (u64_no (a := env 0) (A := .v 0) rfl a0 (by omega) rfl h7))
          (fun h7 => holds_fork
           (fun h8 => holds_out (r64_no (a := env 0) (A := .v 0) rfl a0 (y_pos a1 h4) h8))
           (fun h8 => holds_out (by simp (disch := omega) only [e0, e1, e2, e3, e4, e5, e6, den_iff, BE.P, IE.den, Bool.not_true, Bool.not_false, den_add, den_sub, den_mul, den_tdiv, den_tmod, den_min, den_max, den_and, and_low, and_31, and_63, and_i31, and_i63, wrap_u8, wrap_u16, wrap_u32, wrap_u64, wrap_i8, wrap_i16, wrap_i32, wrap_i64, Int.ofNat_eq_natCast, Int.tmod_eq_emod_of_nonneg] at h0 h1 h2 h3 h4 h5 h6; omega)))))
        (fun h5 => holds_fork
         (fun h6 => holds_fork
          (fun h7 => holds_out (u64_no (a := 9223372036854775808) (A := .c (.ofNat 9223372036854775808)) rfl (by decide) (by decide) rfl h7))
          (fun h7 => holds_fork
           (fun h8 => holds_out (r64_no (a := 9223372036854775808) (A := .c (.ofNat 9223372036854775808)) rfl (by decide) (y_pos a1 h4) h8))
           (fun h8 => holds_fork
            (fun h9 => holds_out (by simp (disch := omega) only [e0, e1, e2, e3, e4, e5, e6, e9, den_iff, BE.P, IE.den, Bool.not_true, Bool.not_false, den_add, den_sub, den_mul, den_tdiv, den_tmod, den_min, den_max, den_and, and_low, and_31, and_63, and_i31, and_i63, wrap_u8, wrap_u16, wrap_u32, wrap_u64, wrap_i8, wrap_i16, wrap_i32, wrap_i64, Int.ofNat_eq_natCast, Int.tmod_eq_emod_of_nonneg] at h0 h1 h2 h3 h4 h5 h6 h9; omega))
            (fun h9 => holds_fork
             (fun h10 => holds_true)
             (fun h10 => holds_out (by simp (disch := omega) only [e0, e1, e2, e3, e4, e5, e6, e9, e10, den_iff, BE.P, IE.den, Bool.not_true, Bool.not_false, den_add, den_sub, den_mul, den_tdiv, den_tmod, den_min, den_max, den_and, and_low, and_31, and_63, and_i31, and_i63, wrap_u8, wrap_u16, wrap_u32, wrap_u64, wrap_i8, wrap_i16, wrap_i32, wrap_i64, Int.ofNat_eq_natCast, Int.tmod_eq_emod_of_nonneg] at h0 h1 h2 h3 h4 h5 h6 h9 h10; omega))))))
         (fun h6 => holds_fork
          (fun h7 => holds_out (u64_no (a := env 0) (A := .v 0) rfl a0 (by omega) rfl h7))
          (fun h7 => holds_fork
           (fun h8 => holds_out (r64_no (a := env 0) (A := .v 0) rfl a0 (y_pos a1 h4) h8))
           (fun h8 => holds_fork
            (fun h9 => holds_out (s64m_no a0 b0 a1 b1 h3 h9))
            (fun h9 => holds_true)))))))
      (fun h3 => holds_fork
       (fun h4 => holds_true)
       (fun h4 => holds_fork
        (fun h5 => holds_out (by simp (disch := omega) only [e0, e1, e2, e3, e4, e14, den_iff, BE.P, IE.den, Bool.not_true, Bool.not_false, den_add, den_sub, den_mul, den_tdiv, den_tmod, den_min, den_max, den_and, and_low, and_31, and_63, and_i31, and_i63, wrap_u8, wrap_u16, wrap_u32, wrap_u64, wrap_i8, wrap_i16, wrap_i32, wrap_i64, Int.ofNat_eq_natCast, Int.tmod_eq_emod_of_nonneg] at h0 h1 h2 h3 h4 h5; omega))
        (fun h5 => holds_fork
         (fun h6 => holds_fork
          (fun h7 => holds_out (u64_no (a := 9223372036854775808) (A := .c (.ofNat 9223372036854775808)) rfl (by decide) (by decide) rfl h7))
          (fun h7 => holds_fork
           (fun h8 => holds_out (r64_no (a := 9223372036854775808) (A := .c (.ofNat 9223372036854775808)) rfl (by decide) (y_pos a1 h4) h8))
           (fun h8 => holds_fork
            (fun h9 => holds_true)
            (fun h9 => holds_fork
             (fun h10 => holds_out (s64_no (a := -9223372036854775808) (A := .c (.negSucc 9223372036854775807)) rfl rfl h10))
             (fun h10 => holds_true)))))
         (fun h6 => holds_fork
          (fun h7 => holds_out (u64_no (a := env 0) (A := .v 0) rfl a0 (by omega) rfl h7))
          (fun h7 => holds_fork
           (fun h8 => holds_out (r64_no (a := env 0) (A := .v 0) rfl a0 (y_pos a1 h4) h8))
           (fun h8 => holds_fork
            (fun h9 => holds_out (s64_no (A := .wrap .i64 (.v 0)) w64_den (by show env 0 = _; omega) h9))
            (fun h9 => holds_true))))))))
     (fun h2 => holds_fork
      (fun h3 => holds_fork
       (fun h4 => holds_fork
        (fun h5 => holds_fork
         (fun h6 => holds_true)
         (fun h6 => holds_fork
          (fun h7 => holds_fork
           (fun h8 => holds_fork
            (fun h9 => holds_out (u64_no (a := 9223372036854775808) (A := .c (.ofNat 9223372036854775808)) rfl (by decide) (by decide) rfl h9))
            (fun h9 => holds_fork
             (fun h10 => holds_out (r64_no (a := 9223372036854775808) (A := .c (.ofNat 9223372036854775808)) rfl (by decide) (y_pos a1 h6) h10))
             (fun h10 => holds_fork
              (fun h11 => holds_out (by simp (disch := omega) only [e0, e1, e2, e17, e18, e3, e4, e5, e6, e9, den_iff, BE.P, IE.den, Bool.not_true, Bool.not_false, den_add, den_sub, den_mul, den_tdiv, den_tmod, den_min, den_max, den_and, and_low, and_31, and_63, and_i31, and_i63, wrap_u8, wrap_u16, wrap_u32, wrap_u64, wrap_i8, wrap_i16, wrap_i32, wrap_i64, Int.ofNat_eq_natCast, Int.tmod_eq_emod_of_nonneg] at h0 h1 h2 h3 h4 h5 h6 h7 h8 h11; omega))
              (fun h11 => holds_fork
               (fun h12 => holds_true)
               (fun h12 => holds_out (by simp (disch := omega) only [e0, e1, e2, e17, e18, e3, e4, e5, e6, e9, e10, den_iff, BE.P, IE.den, Bool.not_true, Bool.not_false, den_add, den_sub, den_mul, den_tdiv, den_tmod, den_min, den_max, den_and, and_low, and_31, and_63, and_i31, and_i63, wrap_u8, wrap_u16, wrap_u32, wrap_u64, wrap_i8, wrap_i16, wrap_i32, wrap_i64, Int.ofNat_eq_natCast, Int.tmod_eq_emod_of_nonneg] at h0 h1 h2 h3 h4 h5 h6 h7 h8 h11 h12; omega))))))
           (fun h8 => holds_fork
            (fun h9 => holds_out (u64_no (a := env 0) (A := .v 0) rfl a0 (by omega) rfl h9))
            (fun h9 => holds_fork
             (fun h10 => holds_out (r64_no (a := env 0) (A := .v 0) rfl a0 (y_pos a1 h6) h10))
             (fun h10 => holds_out (by simp (disch := omega) only [e0, e1, e2, e17, e18, e3, e4, e5, e6, den_iff, BE.P, IE.den, Bool.not_true, Bool.not_false, den_add, den_sub, den_mul, den_tdiv, den_tmod, den_min, den_max, den_and, and_low, and_31, and_63, and_i31, and_i63, wrap_u8, wrap_u16, wrap_u32, wrap_u64, wrap_i8, wrap_i16, wrap_i32, wrap_i64, Int.ofNat_eq_natCast, Int.tmod_eq_emod_of_nonneg] at h0 h1 h2 h3 h4 h5 h6 h7 h8; omega)))))
          (fun h7 => holds_fork
           (fun h8 => holds_fork
            (fun h9 => holds_out (u64_no (a := 9223372036854775808) (A := .c (.ofNat 9223372036854775808)) rfl (by decide) (by decide) rfl h9))
            (fun h9 => holds_fork
             (fun h10 => holds_out (r64_no (a := 9223372036854775808) (A := .c (.ofNat 9223372036854775808)) rfl (by decide) (y_pos a1 h6) h10))
             (fun h10 => holds_fork
              (fun h11 => holds_out (by simp (disch := omega) only [e0, e1, e2, e17, e18, e3, e4, e5, e6, e9, den_iff, BE.P, IE.den, Bool.not_true, Bool.not_false, den_add, den_sub, den_mul, den_tdiv, den_tmod, den_min, den_max, den_and, and_low, and_31, and_63, and_i31, and_i63, wrap_u8, wrap_u16, wrap_u32, wrap_u64, wrap_i8, wrap_i16, wrap_i32, wrap_i64, Int.ofNat_eq_natCast, Int.tmod_eq_emod_of_nonneg] at h0 h1 h2 h3 h4 h5 h6 h7 h8 h11; omega))
              (fun h11 => holds_fork
               (fun h12 => holds_true)
               (fun h12 => holds_out (by simp (disch := omega) only [e0, e1, e2, e17, e18, e3, e4, e5, e6, e9, e10, den_iff, BE.P, IE.den, Bool.not_true, Bool.not_false, den_add, den_sub, den_mul, den_tdiv, den_tmod, den_min, den_max, den_and, and_low, and_31, and_63, and_i31, and_i63, wrap_u8, wrap_u16, wrap_u32, wrap_u64, wrap_i8, wrap_i16, wrap_i32, wrap_i64, Int.ofNat_eq_natCast, Int.tmod_eq_emod_of_nonneg] at h0 h1 h2 h3 h4 h5 h6 h7 h8 h11 h12; omega))))))
           (fun h8 => holds_fork
            (fun h9 => holds_out (u64_no (a := env 0) (A := .v 0) rfl a0 (by omega) rfl h9))
            (fun h9 => holds_fork
             (fun h10 => holds_out (r64_no (a := env 0) (A := .v 0) rfl a0 (y_pos a1 h6) h10))
             (fun h10 => holds_fork
              (fun h11 => holds_out (s64m_no a0 b0 a1 b1 h5 h11))
              (fun h11 => holds_true)))))))
        (fun h5 => holds_fork
         (fun h6 => holds_true)
         (fun h6 => holds_fork
          (fun h7 => holds_out (by simp (disch := omega) only [e0, e1, e2, e17, e18, e3, e4, e14, den_iff, BE.P, IE.den, Bool.not_true, Bool.not_false, den_add, den_sub, den_mul, den_tdiv, den_tmod, den_min, den_max, den_and, and_low, and_31, and_63, and_i31, and_i63, wrap_u8, wrap_u16, wrap_u32, wrap_u64, wrap_i8, wrap_i16, wrap_i32, wrap_i64, Int.ofNat_eq_natCast, Int.tmod_eq_emod_of_nonneg] at h0 h1 h2 h3 h4 h5 h6 h7; omega))
          (fun h7 => holds_fork
           (fun h8 => holds_fork
            (fun h9 => holds_out (u64_no (a := 9223372036854775808) (A := .c (.ofNat 9223372036854775808)) rfl (by decide) (by decide) rfl h9))
            (fun h9 => holds_fork
             (fun h10 => holds_out (r64_no (a := 9223372036854775808) (A := .c (.ofNat 9223372036854775808)) rfl (by decide) (y_pos a1 h6) h10))
             (fun h10 => holds_fork
              (fun h11 => holds_true)
              (fun h11 => holds_fork
               (fun h12 => holds_out (s64_no (a := -9223372036854775808) (A := .c (.negSucc 9223372036854775807)) rfl rfl h12))
               (fun h12 => holds_true)))))
           (fun h8 => holds_fork
            (fun h9 => holds_out (u64_no (a := env 0) (A := .v 0) rfl a0 (by omega) rfl h9))
            (fun h9 => holds_fork
             (fun h10 => holds_out (r64_no (a := env 0) (A := .v 0) rfl a0 (y_pos a1 h6) h10))
             (fun h10 => holds_fork
              (fun h11 => holds_out (s64_no (A := .wrap .i64 (.v 0)) w64_den (by show env 0 = _; omega) h11))
              (fun h11 => holds_true))))))))
       (fun h4 => holds_out (by simp (disch := omega) only [e0, e1, e2, e17, e18, den_iff, BE.P, IE.den, Bool.not_true, Bool.not_false, den_add, den_sub, den_mul, den_tdiv, den_tmod, den_min, den_max, den_and, and_low, and_31, and_63, and_i31, and_i63, wrap_u8, wrap_u16, wrap_u32, wrap_u64, wrap_i8, wrap_i16, wrap_i32, wrap_i64, Int.ofNat_eq_natCast, Int.tmod_eq_emod_of_nonneg] at h0 h1 h2 h3 h4; omega)))
      (fun h3 => holds_out (by simp (disch := omega) only [e0, e1, e2, e17, den_iff, BE.P, IE.den, Bool.not_true, Bool.not_false, den_add, den_sub, den_mul, den_tdiv, den_tmod, den_min, den_max, den_and, and_low, and_31, and_63, and_i31, and_i63, wrap_u8, wrap_u16, wrap_u32, wrap_u64, wrap_i8, wrap_i16, wrap_i32, wrap_i64, Int.ofNat_eq_natCast, Int.tmod_eq_emod_of_nonneg] at h0 h1 h2 h3; omega))))
    (fun h1 => holds_fork
     (fun h2 => holds_out (by simp (disch := omega) only [e0, e1, e29, den_iff, BE.P, IE.den, Bool.not_true, Bool.not_false, den_add, den_sub, den_mul, den_tdiv, den_tmod, den_min, den_max, den_and, and_low, and_31, and_63, and_i31, and_i63, wrap_u8, wrap_u16, wrap_u32, wrap_u64, wrap_i8, wrap_i16, wrap_i32, wrap_i64, Int.ofNat_eq_natCast, Int.tmod_eq_emod_of_nonneg] at h0 h1 h2; omega))
     (fun h2 => holds_fork
      (fun h3 => holds_fork
       (fun h4 => holds_fork
        (fun h5 => holds_true)
        (fun h5 => holds_fork
         (fun h6 => holds_fork
          (fun h7 => holds_fork
           (fun h8 => holds_out (u64_no (a := 9223372036854775808) (A := .c (.ofNat 9223372036854775808)) rfl (by decide) (by decide) rfl h8))
           (fun h8 => holds_fork
            (fun h9 => holds_out (r64_no (a := 9223372036854775808) (A := .c (.ofNat 9223372036854775808)) rfl (by decide) (y_pos a1 h5) h9))
            (fun h9 => holds_fork
             (fun h10 => holds_out (by simp (disch := omega) only [e0, e1, e29, e2, e3, e4, e5, e6, e9, den_iff, BE.P, IE.den, Bool.not_true, Bool.not_false, den_add, den_sub, den_mul, den_tdiv, den_tmod, den_min, den_max, den_and, and_low, and_31, and_63, and_i31, and_i63, wrap_u8, wrap_u16, wrap_u32, wrap_u64, wrap_i8, wrap_i16, wrap_i32, wrap_i64, Int.ofNat_eq_natCast, Int.tmod_eq_emod_of_nonneg] at h0 h1 h2 h3 h4 h5 h6 h7 h10; omega))
             (fun h10 => holds_fork
              (fun h11 => holds_true)
              (fun h11 => holds_out (by simp (disch := omega) only [e0, e1, e29, e2, e3, e4, e5, e6, e9, e10, den_iff, BE.P, IE.den, Bool.not_true, Bool.not_false, den_add, den_sub, den_mul, den_tdiv, den_tmod, den_min, den_max, den_and, and_low, and_31, and_63, and_i31, and_i63, wrap_u8, wrap_u16, wrap_u32, wrap_u64, wrap_i8, wrap_i16, wrap_i32, wrap_i64, Int.ofNat_eq_natCast, Int.tmod_eq_emod_of_nonneg] at h0 h1 h2 h3 h4 h5 h6 h7 h10 h11; omega))))))
          (fun h7 => holds_fork
           (fun h8 => holds_out (u64_no (a := env 0) (A := .v 0) rfl a0 (by omega) rfl h8))
           (fun h8 => holds_fork
            (fun h9 => holds_out (r64_no (a := env 0) (A := .v 0) rfl a0 (y_pos a1 h5) h9))
            (fun h9 => holds_out (by simp (disch := omega) only [e0, e1, e29, e2, e3, e4, e5, e6, den_iff, BE.P, IE.den, Bool.not_true, Bool.not_false, den_add, den_sub, den_mul, den_tdiv, den_tmod, den_min, den_max, den_and, and_low, and_31, and_63, and_i31, and_i63, wrap_u8, wrap_u16, wrap_u32, wrap_u64, wrap_i8, wrap_i16, wrap_i32, wrap_i64, Int.ofNat_eq_natCast, Int.tmod_eq_emod_of_nonneg] at h0 h1 h2 h3 h4 h5 h6 h7; omega)))))
         (fun h6 => holds_fork
          (fun h7 => holds_fork
           (fun h8 => holds_out (u64_no (a := 9223372036854775808) (A := .c (.ofNat 9223372036854775808)) rfl (by decide) (by decide) rfl h8))
           (fun h8 => holds_fork
            (fun h9 => holds_out (r64_no (a := 9223372036854775808) (A := .c (.ofNat 9223372036854775808)) rfl (by decide) (y_pos a1 h5) h9))
            (fun h9 => holds_fork
             (fun h10 => holds_out (by simp (disch := omega) only [e0, e1, e29, e2, e3, e4, e5, e6, e9, den_iff, BE.P, IE.den, Bool.not_true, Bool.not_false, den_add, den_sub, den_mul, den_tdiv, den_tmod, den_min, den_max, den_and, and_low, and_31, and_63, and_i31, and_i63, wrap_u8, wrap_u16, wrap_u32, wrap_u64, wrap_i8, wrap_i16, wrap_i32, wrap_i64, Int.ofNat_eq_natCast, Int.tmod_eq_emod_of_nonneg] at h0 h1 h2 h3 h4 h5 h6 h7 h10; omega))
             (fun h10 => holds_fork
              (fun h11 => holds_true)
              (fun h11 => holds_out (by simp (disch := omega) only [e0, e1, e29, e2, e3, e4, e5, e6, e9, e10, den_iff, BE.P, IE.den, Bool.not_true, Bool.not_false, den_add, den_sub, den_mul, den_tdiv, den_tmod, den_min, den_max, den_and, and_low, and_31, and_63, and_i31, and_i63, wrap_u8, wrap_u16, wrap_u32, wrap_u64, wrap_i8, wrap_i16, wrap_i32, wrap_i64, Int.ofNat_eq_natCast, Int.tmod_eq_emod_of_nonneg] at h0 h1 h2 h3 h4 h5 h6 h7 h10 h11; omega))))))
          (fun h7 => holds_fork
           (fun h8 => holds_out (u64_no (a := env 0) (A := .v 0) rfl a0 (by omega) rfl h8))
           (fun h8 => holds_fork
            (fun h9 => holds_out (r64_no (a := env 0) (A := .v 0) rfl a0 (y_pos a1 h5) h9))
            (fun h9 => holds_fork
             (fun h10 => holds_out (s64m_no a0 b0 a1 b1 h4 h10))
             (fun h10 => holds_true)))))))
       (fun h4 => holds_fork
        (fun h5 => holds_true)
        (fun h5 => holds_fork
         (fun h6 => holds_out (by simp (disch := omega) only [e0, e1, e29, e2, e3, e4, e14, den_iff, BE.P, IE.den, Bool.not_true, Bool.not_false, den_add, den_sub, den_mul, den_tdiv, den_tmod, den_min, den_max, den_and, and_low, and_31, and_63, and_i31, and_i63, wrap_u8, wrap_u16, wrap_u32, wrap_u64, wrap_i8, wrap_i16, wrap_i32, wrap_i64, Int.ofNat_eq_natCast, Int.tmod_eq_emod_of_nonneg] at h0 h1 h2 h3 h4 h5 h6; omega))
         (fun h6 => holds_fork
          (fun h7 => holds_fork
           (fun h8 => holds_out (u64_no (a := 9223372036854775808) (A := .c (.ofNat 9223372036854775808)) rfl (by decide) (by decide) rfl h8))
           (fun h8 => holds_fork
            (fun h9 => holds_out (r64_no (a := 9223372036854775808) (A := .c (.ofNat 9223372036854775808)) rfl (by decide) (y_pos a1 h5) h9))
            (fun h9 => holds_fork
             (fun h10 => holds_true)
             (fun h10 => holds_fork
              (fun h11 => holds_out (s64_no (a := -9223372036854775808) (A := .c (.negSucc 9223372036854775807)) rfl rfl h11))
              (fun h11 => holds_true)))))
          (fun h7 => holds_fork
           (fun h8 => holds_out (u64_no (a := env 0) (A := .v 0) rfl a0 (by omega) rfl h8))
           (fun h8 => holds_fork
            (fun h9 => holds_out (r64_no (a := env 0) (A := .v 0) rfl a0 (y_pos a1 h5) h9))
            (fun h9 => holds_fork
             (fun h10 => holds_out (s64_no (A := .wrap .i64 (.v 0)) w64_den (by show env 0 = _; omega) h10))
             (fun h10 => holds_true))))))))
      (fun h3 => holds_fork
       (fun h4 => holds_fork
        (fun h5 => holds_fork
         (fun h6 => holds_fork
          (fun h7 => holds_true)
          (fun h7 => holds_fork
           (fun h8 => holds_fork
            (fun h9 => holds_fork
             (fun h10 => holds_out (u64_no (a := 9223372036854775808) (A := .c (.ofNat 9223372036854775808)) rfl (by decide) (by decide) rfl h10))
             (fun h10 => holds_fork
              (fun h11 => holds_out (r64_no (a := 9223372036854775808) (A := .c (.ofNat 9223372036854775808)) rfl (by decide) (y_pos a1 h7) h11))
              (fun h11 => holds_fork
               (fun h12 => holds_out (by simp (disch := omega) only [e0, e1, e29, e2, e17, e18, e3, e4, e5, e6, e9, den_iff, BE.P, IE.den, Bool.not_true, Bool.not_false, den_add, den_sub, den_mul, den_tdiv, den_tmod, den_min, den_max, den_and, and_low, and_31, and_63, and_i31, and_i63, wrap_u8, wrap_u16, wrap_u32, wrap_u64, wrap_i8, wrap_i16, wrap_i32, wrap_i64, Int.ofNat_eq_natCast, Int.tmod_eq_emod_of_nonneg] at h0 h1 h2 h3 h4 h5 h6 h7 h8 h9 h12; omega))
               (fun h12 => holds_fork
                (fun h13 => holds_true)
                (fun h13 => holds_out (by simp (disch := omega) only [e0, e1, e29, e2, e17, e18, e3, e4, e5, e6, e9, e10, den_iff, BE.P, IE.den, Bool.not_true, Bool.not_false, den_add, den_sub, den_mul, den_tdiv, den_tmod, den_min, den_max, den_and, and_low, and_31, and_63, and_i31, and_i63, wrap_u8, wrap_u16, wrap_u32, wrap_u64, wrap_i8, wrap_i16, wrap_i32, wrap_i64, Int.ofNat_eq_natCast, Int.tmod_eq_emod_of_nonneg] at h0 h1 h2 h3 h4 h5 h6 h7 h8 h9 h12 h13; omega))))))
            (fun h9 => holds_fork
             (fun h10 => holds_out (u64_no (a := env 0) (A := .v 0) rfl a0 (by omega) rfl h10))
             (fun h10 => holds_fork
              (fun h11 => holds_out (r64_no (a := env 0) (A := .v 0) rfl a0 (y_pos a1 h7) h11))
              (fun h11 => holds_out (by simp (disch := omega) only [e0, e1, e29, e2, e17, e18, e3, e4, e5, e6, den_iff, BE.P, IE.den, Bool.not_true, Bool.not_false, den_add, den_sub, den_mul, den_tdiv, den_tmod, den_min, den_max, den_and, and_low, and_31, and_63, and_i31, and_i63, wrap_u8, wrap_u16, wrap_u32, wrap_u64, wrap_i8, wrap_i16, wrap_i32, wrap_i64, Int.ofNat_eq_natCast, Int.tmod_eq_emod_of_nonneg] at h0 h1 h2 h3 h4 h5 h6 h7 h8 h9; omega)))))
           (fun h8 => holds_fork
            (fun h9 => holds_fork
             (fun h10 => holds_out (u64_no (a := 9223372036854775808) (A := .c (.ofNat 9223372036854775808)) rfl (by decide) (by decide) rfl h10))
             (fun h10 => holds_fork
              (fun h11 => holds_out (r64_no (a := 9223372036854775808) (A := .c (.ofNat 9223372036854775808)) rfl (by decide) (y_pos a1 h7) h11))
              (fun h11 => holds_fork
               (fun h12 => holds_out (by simp (disch := omega) only [e0, e1, e29, e2, e17, e18, e3, e4, e5, e6, e9, den_iff, BE.P, IE.den, Bool.not_true, Bool.not_false, den_add, den_sub, den_mul, den_tdiv, den_tmod, den_min, den_max, den_and, and_low, and_31, and_63, and_i31, and_i63, wrap_u8, wrap_u16, wrap_u32, wrap_u64, wrap_i8, wrap_i16, wrap_i32, wrap_i64, Int.ofNat_eq_natCast, Int.tmod_eq_emod_of_nonneg] at h0 h1 h2 h3 h4 h5 h6 h7 h8 h9 h12; omega))
               (fun h12 => holds_fork
                (fun h13 => holds_true)
                (fun h13 => holds_out (by simp (disch := omega) only [e0, e1, e29, e2, e17, e18, e3, e4, e5, e6, e9, e10, den_iff, BE.P, IE.den, Bool.not_true, Bool.not_false, den_add, den_sub, den_mul, den_tdiv, den_tmod, den_min, den_max, den_and, and_low, and_31, and_63, and_i31, and_i63, wrap_u8, wrap_u16, wrap_u32, wrap_u64, wrap_i8, wrap_i16, wrap_i32, wrap_i64, Int.ofNat_eq_natCast, Int.tmod_eq_emod_of_nonneg] at h0 h1 h2 h3 h4 h5 h6 h7 h8 h9 h12 h13; omega))))))
            (fun h9 => holds_fork
             (fun h10 => holds_out (u64_no (a := env 0) (A := .v 0) rfl a0 (by omega) rfl h10))
             (fun h10 => holds_fork
              (fun h11 => holds_out (r64_no (a := env 0) (A := .v 0) rfl a0 (y_pos a1 h7) h11))
              (fun h11 => holds_fork
               (fun h12 => holds_out (s64m_no a0 b0 a1 b1 h6 h12))
               (fun h12 => holds_true)))))))
         (fun h6 => holds_fork
          (fun h7 => holds_true)
          (fun h7 => holds_fork
           (fun h8 => holds_out (by simp (disch := omega) only [e0, e1, e29, e2, e17, e18, e3, e4, e14, den_iff, BE.P, IE.den, Bool.not_true, Bool.not_false, den_add, den_sub, den_mul, den_tdiv, den_tmod, den_min, den_max, den_and, and_low, and_31, and_63, and_i31, and_i63, wrap_u8, wrap_u16, wrap_u32, wrap_u64, wrap_i8, wrap_i16, wrap_i32, wrap_i64, Int.ofNat_eq_natCast, Int.tmod_eq_emod_of_nonneg] at h0 h1 h2 h3 h4 h5 h6 h7 h8; omega))
           (fun h8 => holds_fork
            (fun h9 => holds_fork
             (fun h10 => holds_out (u64_no (a := 9223372036854775808) (A := .c (.ofNat 9223372036854775808)) rfl (by decide) (by decide) rfl h10))
             (fun h10 => holds_fork
              (fun h11 => holds_out (r64_no (a := 9223372036854775808) (A := .c (.ofNat 9223372036854775808)) rfl (by decide) (y_pos a1 h7) h11))
              (fun h11 => holds_fork
               (fun h12 => holds_true)
               (fun h12 => holds_fork
                (fun h13 => holds_out (s64_no (a := -9223372036854775808) (A := .c (.negSucc 9223372036854775807)) rfl rfl h13))
                (fun h13 => holds_true)))))
            (fun h9 => holds_fork
             (fun h10 => holds_out (u64_no (a := env 0) (A := .v 0) rfl a0 (by omega) rfl h10))
             (fun h10 => holds_fork
              (fun h11 => holds_out (r64_no (a := env 0) (A := .v 0) rfl a0 (y_pos a1 h7) h11))
              (fun h11 => holds_fork
               (fun h12 => holds_out (s64_no (A := .wrap .i64 (.v 0)) w64_den (by show env 0 = _; omega) h12))
               (fun h12 => holds_true))))))))
        (fun h5 => holds_fork
         (fun h6 => holds_out (u32_no (a := 2147483648) (A := .c (.ofNat 2147483648)) rfl (by decide) (by decide) rfl h6))
         (fun h6 => holds_fork
          (fun h7 => holds_out (r32_no (a := 2147483648) (A := .c (.ofNat 2147483648)) rfl (by decide) (y32_pos h3) h7))
          (fun h7 => holds_fork
           (fun h8 => holds_out (s32_no (a := -2147483648) (A := .c (.negSucc 2147483647)) rfl rfl h8))
           (fun h8 => holds_fork
            (fun h9 => holds_out (no_lt h9))
            (fun h9 => holds_fork
             (fun h10 => holds_out (no_lt h10))
             (fun h10 => holds_fork
              (fun h11 => holds_fork
               (fun h12 => holds_true)
               (fun h12 => holds_fork
                (fun h13 => holds_fork
                 (fun h14 => holds_fork
                  (fun h15 => holds_out (u32_no (a := 0) (A := .c (.ofNat 0)) rfl (by decide) (by decide) rfl h15))
                  (fun h15 => holds_fork
                   (fun h16 => holds_out (r32_no (a := 0) (A := .c (.ofNat 0)) rfl (by decide) (y32_pos h3) h16))
                   (fun h16 => holds_fork
                    (fun h17 => holds_out (s32_no (a := 0) (A := .c (.ofNat 0)) rfl rfl h17))
                    (fun h17 => holds_fork
                     (fun h18 => holds_out (no_lt h18))
                     (fun h18 => holds_fork
                      (fun h19 => holds_out (no_lt h19))
                      (fun h19 => holds_fork
                       (fun h20 => holds_out (u64_no (a := 9223372036854775808) (A := .c (.ofNat 9223372036854775808)) rfl (by decide) (by decide) rfl h20))
                       (fun h20 => holds_fork
                        (fun h21 => holds_out (r64_no (a := 9223372036854775808) (A := .c (.ofNat 9223372036854775808)) rfl (by decide) (y_pos a1 h12) h21))
                        (fun h21 => holds_fork
                         (fun h22 => holds_out (by simp (disch := omega) only [e0, e1, e29, e2, e17, e18, e3, e4, e5, e6, e9, den_iff, BE.P, IE.den, Bool.not_true, Bool.not_false, den_add, den_sub, den_mul, den_tdiv, den_tmod, den_min, den_max, den_and, and_low, and_31, and_63, and_i31, and_i63, wrap_u8, wrap_u16, wrap_u32, wrap_u64, wrap_i8, wrap_i16, wrap_i32, wrap_i64, Int.ofNat_eq_natCast, Int.tmod_eq_emod_of_nonneg] at h0 h1 h2 h3 h4 h5 h11 h12 h13 h14 h22; omega))
                         (fun h22 => holds_fork
                          (fun h23 => holds_true)
                          (fun h23 => holds_out (by simp (disch := omega) only [e0, e1, e29, e2, e17, e18, e3, e4, e5, e6, e9, e10, den_iff, BE.P, IE.den, Bool.not_true, Bool.not_false, den_add, den_sub, den_mul, den_tdiv, den_tmod, den_min, den_max, den_and, and_low, and_31, and_63, and_i31, and_i63, wrap_u8, wrap_u16, wrap_u32, wrap_u64, wrap_i8, wrap_i16, wrap_i32, wrap_i64, Int.ofNat_eq_natCast, Int.tmod_eq_emod_of_nonneg] at h0 h1 h2 h3 h4 h5 h11 h12 h13 h14 h22 h23; omega)))))))))))
                 (fun h14 => holds_fork
                  (fun h15 => holds_out (u64_no (a := env 0) (A := .v 0) rfl a0 (by omega) rfl h15))
                  (fun h15 => holds_fork
                   (fun h16 => holds_out (r64_no (a := env 0) (A := .v 0) rfl a0 (y_pos a1 h12) h16))
                   (fun h16 => holds_out (by simp (disch := omega) only [e0, e1, e29, e2, e17, e18, e3, e4, e5, e6, den_iff, BE.P, IE.den, Bool.not_true, Bool.not_false, den_add, den_sub, den_mul, den_tdiv, den_tmod, den_min, den_max, den_and, and_low, and_31, and_63, and_i31, and_i63, wrap_u8, wrap_u16, wrap_u32, wrap_u64, wrap_i8, wrap_i16, wrap_i32, wrap_i64, Int.ofNat_eq_natCast, Int.tmod_eq_emod_of_nonneg] at h0 h1 h2 h3 h4 h5 h11 h12 h13 h14; omega)))))
                (fun h13 => holds_fork
                 (fun h14 => holds_fork
                  (fun h15 => holds_out (u32_no (a := 0) (A := .c (.ofNat 0)) rfl (by decide) (by decide) rfl h15))
                  (fun h15 => holds_fork
                   (fun h16 => holds_out (r32_no (a := 0) (A := .c (.ofNat 0)) rfl (by decide) (y32_pos h3) h16))
                   (fun h16 => holds_fork
                    (fun h17 => holds_out (s32_no (a := 0) (A := .c (.ofNat 0)) rfl rfl h17))
                    (fun h17 => holds_fork
                     (fun h18 => holds_out (no_lt h18))
                     (fun h18 => holds_fork
                      (fun h19 => holds_out (no_lt h19))
                      (fun h19 => holds_fork
                       (fun h20 => holds_out (u64_no (a := 9223372036854775808) (A := .c (.ofNat 9223372036854775808)) rfl (by decide) (by decide) rfl h20))
                       (fun h20 => holds_fork
                        (fun h21 => holds_out (r64_no (a := 9223372036854775808) (A := .c (.ofNat 9223372036854775808)) rfl (by decide) (y_pos a1 h12) h21))
                        (fun h21 => holds_fork
                         (fun h22 => holds_out (by simp (disch := omega) only [e0, e1, e29, e2, e17, e18, e3, e4, e5, e6, e9, den_iff, BE.P, IE.den, Bool.not_true, Bool.not_false, den_add, den_sub, den_mul, den_tdiv, den_tmod, den_min, den_max, den_and, and_low, and_31, and_63, and_i31, and_i63, wrap_u8, wrap_u16, wrap_u32, wrap_u64, wrap_i8, wrap_i16, wrap_i32, wrap_i64, Int.ofNat_eq_natCast, Int.tmod_eq_emod_of_nonneg] at h0 h1 h2 h3 h4 h5 h11 h12 h13 h14 h22; omega))
                         (fun h22 => holds_fork
                          (fun h23 => holds_true)
                          (fun h23 => holds_out (by simp (disch := omega) only [e0, e1, e29, e2, e17, e18, e3, e4, e5, e6, e9, e10, den_iff, BE.P, IE.den, Bool.not_true, Bool.not_false, den_add, den_sub, den_mul, den_tdiv, den_tmod, den_min, den_max, den_and, and_low, and_31, and_63, and_i31, and_i63, wrap_u8, wrap_u16, wrap_u32, wrap_u64, wrap_i8, wrap_i16, wrap_i32, wrap_i64, Int.ofNat_eq_natCast, Int.tmod_eq_emod_of_nonneg] at h0 h1 h2 h3 h4 h5 h11 h12 h13 h14 h22 h23; omega)))))))))))
                 (fun h14 => holds_fork
                  (fun h15 => holds_out (u64_no (a := env 0) (A := .v 0) rfl a0 (by omega) rfl h15))
                  (fun h15 => holds_fork
                   (fun h16 => holds_out (r64_no (a := env 0) (A := .v 0) rfl a0 (y_pos a1 h12) h16))
                   (fun h16 => holds_fork
                    (fun h17 => holds_out (s64m_no a0 b0 a1 b1 h11 h17))
                    (fun h17 => holds_true)))))))
              (fun h11 => holds_fork
               (fun h12 => holds_true)
               (fun h12 => holds_fork
                (fun h13 => holds_out (by simp (disch := omega) only [e0, e1, e29, e2, e17, e18, e3, e4, e14, den_iff, BE.P, IE.den, Bool.not_true, Bool.not_false, den_add, den_sub, den_mul, den_tdiv, den_tmod, den_min, den_max, den_and, and_low, and_31, and_63, and_i31, and_i63, wrap_u8, wrap_u16, wrap_u32, wrap_u64, wrap_i8, wrap_i16, wrap_i32, wrap_i64, Int.ofNat_eq_natCast, Int.tmod_eq_emod_of_nonneg] at h0 h1 h2 h3 h4 h5 h11 h12 h13; omega))
                (fun h13 => holds_fork
                 (fun h14 => holds_fork
                  (fun h15 => holds_out (u32_no (a := 0) (A := .c (.ofNat 0)) rfl (by decide) (by decide) rfl h15))
                  (fun h15 => holds_fork
                   (fun h16 => holds_out (r32_no (a := 0) (A := .c (.ofNat 0)) rfl (by decide) (y32_pos h3) h16))
                   (fun h16 => holds_fork
                    (fun h17 => holds_out (s32_no (a := 0) (A := .c (.ofNat 0)) rfl rfl h17))
                    (fun h17 => holds_fork
                     (fun h18 => holds_out (no_lt h18))
                     (fun h18 => holds_fork
                      (fun h19 => holds_out (no_lt h19))
                      (fun h19 => holds_fork
                       (fun h20 => holds_out (u64_no (a := 9223372036854775808) (A := .c (.ofNat 9223372036854775808)) rfl (by decide) (by decide) rfl h20))
                       (fun h20 => holds_fork
                        (fun h21 => holds_out (r64_no (a := 9223372036854775808) (A := .c (.ofNat 9223372036854775808)) rfl (by decide) (y_pos a1 h12) h21))
                        (fun h21 => holds_fork
                         (fun h22 => holds_true)
                         (fun h22 => holds_fork
                          (fun h23 => holds_out (s64_no (a := -9223372036854775808) (A := .c (.negSucc 9223372036854775807)) rfl rfl h23))
                          (fun h23 => holds_true))))))))))
                 (fun h14 => holds_fork
                  (fun h15 => holds_out (u64_no (a := env 0) (A := .v 0) rfl a0 (by omega) rfl h15))
                  (fun h15 => holds_fork
                   (fun h16 => holds_out (r64_no (a := env 0) (A := .v 0) rfl a0 (y_pos a1 h12) h16))
                   (fun h16 => holds_fork
                    (fun h17 => holds_out (s64_no (A := .wrap .i64 (.v 0)) w64_den (by show env 0 = _; omega) h17))
                    (fun h17 => holds_true))))))))))))))
       (fun h4 => holds_fork
        (fun h5 => holds_out (u32_no (A := x32) x32_den x32_lt.1 x32_lt.2 wx_den h5))
        (fun h5 => holds_fork
         (fun h6 => holds_out (r32_no (A := x32) x32_den x32_lt.1 (y32_pos h3) h6))
         (fun h6 => holds_fork
          (fun h7 => holds_out (s32_no (A := xs) xs_den wwx_den h7))
          (fun h7 => holds_fork
           (fun h8 => holds_out (no_lt h8))
           (fun h8 => holds_fork
            (fun h9 => holds_out (no_lt h9))
            (fun h9 => holds_fork
             (fun h10 => holds_fork
              (fun h11 => holds_true)
              (fun h11 => holds_fork
               (fun h12 => holds_fork
                (fun h13 => holds_fork
                 (fun h14 => holds_out (u32_no (a := 0) (A := .c (.ofNat 0)) rfl (by decide) (by decide) rfl h14))
                 (fun h14 => holds_fork
                  (fun h15 => holds_out (r32_no (a := 0) (A := .c (.ofNat 0)) rfl (by decide) (y32_pos h3) h15))
                  (fun h15 => holds_fork
                   (fun h16 => holds_out (s32_no (a := 0) (A := .c (.ofNat 0)) rfl rfl h16))
                   (fun h16 => holds_fork
                    (fun h17 => holds_out (no_lt h17))
                    (fun h17 => holds_fork
                     (fun h18 => holds_out (no_lt h18))
                     (fun h18 => holds_fork
                      (fun h19 => holds_out (u64_no (a := 9223372036854775808) (A := .c (.ofNat 9223372036854775808)) rfl (by decide) (by decide) rfl h19))
                      (fun h19 => holds_fork
                       (fun h20 => holds_out (r64_no (a := 9223372036854775808) (A := .c (.ofNat 9223372036854775808)) rfl (by decide) (y_pos a1 h11) h20))
                       (fun h20 => holds_fork
                        (fun h21 => holds_out (by simp (disch := omega) only [e0, e1, e29, e2, e17, e3, e4, e5, e6, e9, den_iff, BE.P, IE.den, Bool.not_true, Bool.not_false, den_add, den_sub, den_mul, den_tdiv, den_tmod, den_min, den_max, den_and, and_low, and_31, and_63, and_i31, and_i63, wrap_u8, wrap_u16, wrap_u32, wrap_u64, wrap_i8, wrap_i16, wrap_i32, wrap_i64, Int.ofNat_eq_natCast, Int.tmod_eq_emod_of_nonneg] at h0 h1 h2 h3 h4 h10 h11 h12 h13 h21; omega))
                        (fun h21 => holds_fork
                         (fun h22 => holds_true)
                         (fun h22 => holds_out (by simp (disch := omega) only [e0, e1, e29, e2, e17, e3, e4, e5, e6, e9, e10, den_iff, BE.P, IE.den, Bool.not_true, Bool.not_false, den_add, den_sub, den_mul, den_tdiv, den_tmod, den_min, den_max, den_and, and_low, and_31, and_63, and_i31, and_i63, wrap_u8, wrap_u16, wrap_u32, wrap_u64, wrap_i8, wrap_i16, wrap_i32, wrap_i64, Int.ofNat_eq_natCast, Int.tmod_eq_emod_of_nonneg] at h0 h1 h2 h3 h4 h10 h11 h12 h13 h21 h22; omega)))))))))))
                (fun h13 => holds_fork
                 (fun h14 => holds_out (u64_no (a := env 0) (A := .v 0) rfl a0 (by omega) rfl h14))
                 (fun h14 => holds_fork
                  (fun h15 => holds_out (r64_no (a := env 0) (A := .v 0) rfl a0 (y_pos a1 h11) h15))
                  (fun h15 => holds_out (by simp (disch := omega) only [e0, e1, e29, e2, e17, e3, e4, e5, e6, den_iff, BE.P, IE.den, Bool.not_true, Bool.not_false, den_add, den_sub, den_mul, den_tdiv, den_tmod, den_min, den_max, den_and, and_low, and_31, and_63, and_i31, and_i63, wrap_u8, wrap_u16, wrap_u32, wrap_u64, wrap_i8, wrap_i16, wrap_i32, wrap_i64, Int.ofNat_eq_natCast, Int.tmod_eq_emod_of_nonneg] at h0 h1 h2 h3 h4 h10 h11 h12 h13; omega)))))
               (fun h12 => holds_fork
                (fun h13 => holds_fork
                 (fun h14 => holds_out (u32_no (a := 0) (A := .c (.ofNat 0)) rfl (by decide) (by decide) rfl h14))
                 (fun h14 => holds_fork
                  (fun h15 => holds_out (r32_no (a := 0) (A := .c (.ofNat 0)) rfl (by decide) (y32_pos h3) h15))
                  (fun h15 => holds_fork
                   (fun h16 => holds_out (s32_no (a := 0) (A := .c (.ofNat 0)) rfl rfl h16))
                   (fun h16 => holds_fork
                    (fun h17 => holds_out (no_lt h17))
                    (fun h17 => holds_fork
                     (fun h18 => holds_out (no_lt h18))
                     (fun h18 => holds_fork
                      (fun h19 => holds_out (u64_no (a := 9223372036854775808) (A := .c (.ofNat 9223372036854775808)) rfl (by decide) (by decide) rfl h19))
                      (fun h19 => holds_fork
                       (fun h20 => holds_out (r64_no (a := 9223372036854775808) (A := .c (.ofNat 9223372036854775808)) rfl (by decide) (y_pos a1 h11) h20))
                       (fun h20 => holds_fork
                        (fun h21 => holds_out (by simp (disch := omega) only [e0, e1, e29, e2, e17, e3, e4, e5, e6, e9, den_iff, BE.P, IE.den, Bool.not_true, Bool.not_false, den_add, den_sub, den_mul, den_tdiv, den_tmod, den_min, den_max, den_and, and_low, and_31, and_63, and_i31, and_i63, wrap_u8, wrap_u16, wrap_u32, wrap_u64, wrap_i8, wrap_i16, wrap_i32, wrap_i64, Int.ofNat_eq_natCast, Int.tmod_eq_emod_of_nonneg] at h0 h1 h2 h3 h4 h10 h11 h12 h13 h21; omega))
                        (fun h21 => holds_fork
                         (fun h22 => holds_true)
                         (fun h22 => holds_out (by simp (disch := omega) only [e0, e1, e29, e2, e17, e3, e4, e5, e6, e9, e10, den_iff, BE.P, IE.den, Bool.not_true, Bool.not_false, den_add, den_sub, den_mul, den_tdiv, den_tmod, den_min, den_max, den_and, and_low, and_31, and_63, and_i31, and_i63, wrap_u8, wrap_u16, wrap_u32, wrap_u64, wrap_i8, wrap_i16, wrap_i32, wrap_i64, Int.ofNat_eq_natCast, Int.tmod_eq_emod_of_nonneg] at h0 h1 h2 h3 h4 h10 h11 h12 h13 h21 h22; omega)))))))))))
                (fun h13 => holds_fork
                 (fun h14 => holds_out (u64_no (a := env 0) (A := .v 0) rfl a0 (by omega) rfl h14))
                 (fun h14 => holds_fork
                  (fun h15 => holds_out (r64_no (a := env 0) (A := .v 0) rfl a0 (y_pos a1 h11) h15))
                  (fun h15 => holds_fork
                   (fun h16 => holds_out (s64m_no a0 b0 a1 b1 h10 h16))
                   (fun h16 => holds_true)))))))
             (fun h10 => holds_fork
              (fun h11 => holds_true)
              (fun h11 => holds_fork
               (fun h12 => holds_out (by simp (disch := omega) only [e0, e1, e29, e2, e17, e3, e4, e14, den_iff, BE.P, IE.den, Bool.not_true, Bool.not_false, den_add, den_sub, den_mul, den_tdiv, den_tmod, den_min, den_max, den_and, and_low, and_31, and_63, and_i31, and_i63, wrap_u8, wrap_u16, wrap_u32, wrap_u64, wrap_i8, wrap_i16, wrap_i32, wrap_i64, Int.ofNat_eq_natCast, Int.tmod_eq_emod_of_nonneg] at h0 h1 h2 h3 h4 h10 h11 h12; omega))
               (fun h12 => holds_fork
                (fun h13 => holds_fork
                 (fun h14 => holds_out (u32_no (a := 0) (A := .c (.ofNat 0)) rfl (by decide) (by decide) rfl h14))
                 (fun h14 => holds_fork
                  (fun h15 => holds_out (r32_no (a := 0) (A := .c (.ofNat 0)) rfl (by decide) (y32_pos h3) h15))
                  (fun h15 => holds_fork
                   (fun h16 => holds_out (s32_no (a := 0) (A := .c (.ofNat 0)) rfl rfl h16))
                   (fun h16 => holds_fork
                    (fun h17 => holds_out (no_lt h17))
                    (fun h17 => holds_fork
                     (fun h18 => holds_out (no_lt h18))
                     (fun h18 => holds_fork
                      (fun h19 => holds_out (u64_no (a := 9223372036854775808) (A := .c (.ofNat 9223372036854775808)) rfl (by decide) (by decide) rfl h19))
                      (fun h19 => holds_fork
                       (fun h20 => holds_out (r64_no (a := 9223372036854775808) (A := .c (.ofNat 9223372036854775808)) rfl (by decide) (y_pos a1 h11) h20))
                       (fun h20 => holds_fork
                        (fun h21 => holds_true)
                        (fun h21 => holds_fork
                         (fun h22 => holds_out (s64_no (a := -9223372036854775808) (A := .c (.negSucc 9223372036854775807)) rfl rfl h22))
                         (fun h22 => holds_true))))))))))
                (fun h13 => holds_fork
                 (fun h14 => holds_out (u64_no (a := env 0) (A := .v 0) rfl a0 (by omega) rfl h14))
                 (fun h14 => holds_fork
                  (fun h15 => holds_out (r64_no (a := env 0) (A := .v 0) rfl a0 (y_pos a1 h11) h15))
                  (fun h15 => holds_fork
                   (fun h16 => holds_out (s64_no (A := .wrap .i64 (.v 0)) w64_den (by show env 0 = _; omega) h16))
                   (fun h16 => holds_true)))))))))))))))))
end Go.Vm.VNumDivides
