/- The law NumShifts: what is to be shown of the numbers. -/
import Derived.Test.YtpbnbgjclalpeaaDoorVNumShiftsB
import Derived.Test.YtpbnbgjclalpeaaDoorVmRot
set_option linter.unusedVariables false
set_option linter.unusedSimpArgs false
namespace Go.Vm.VNumShifts
open Go.Vm
section
variable {env : Nat → Int}
theorem ne_no {a b : IE} (h : a.den env = b.den env) : (BE.not (.eq a b)).den env = true → False := by
  intro e
  have e : (!ieqb (a.den env) (b.den env)) = true := e
  rw [h, ieqb_eq] at e
  simp at e
theorem shl32_eq {a b s s' : IE} {Q m : Nat} (ha : a.den env = Q) (hb : b.den env = Q) (hs : s.den env = m) (hs' : s'.den env = m) (hm : m < 32) :
    (IE.bin .and .u64 (.wrap .u64 (.bin .shl .u64 a s)) (.c (.ofNat 4294967295))).den env = (IE.wrap .u64 (.wrap .u32 (.bin .shl .u32 b s'))).den env := by
  show andF .u64 (wrapF .u64 ((IE.bin .shl .u64 a s).den env)) ((4294967295 : Nat) : Int) = wrapF .u64 (wrapF .u32 ((IE.bin .shl .u32 b s').den env))
  rw [and_low, wrap_u64, wrap_u64, wrap_u32, shl_at hs (by show m ≤ 64; omega), shl_at hs' (by show m ≤ 32; omega), ha, hb]
  generalize (Q : Int) * ((2 ^ m : Nat) : Int) = q
  omega
theorem shrs32_eq {a b s s' : IE} {q : Int} {m : Nat} (ha : a.den env = q) (hb : b.den env = q) (hs : s.den env = m) (hs' : s'.den env = m) (hm : m < 32) :
    (IE.bin .and .u64 (.wrap .u64 (.bin .shr .i64 a s)) (.c (.ofNat 4294967295))).den env = (IE.wrap .u64 (.wrap .u32 (.bin .shr .i32 b s'))).den env := by
  show andF .u64 (wrapF .u64 ((IE.bin .shr .i64 a s).den env)) ((4294967295 : Nat) : Int) = wrapF .u64 (wrapF .u32 ((IE.bin .shr .i32 b s').den env))
  rw [and_low, wrap_u64, wrap_u64, wrap_u32, shr_at hs (by show m ≤ 64; omega), shr_at hs' (by show m ≤ 32; omega), ha, hb]
  generalize q / ((2 ^ m : Nat) : Int) = r
  omega
theorem shru32_eq {a b s s' : IE} {Q m : Nat} (ha : a.den env = Q) (hb : b.den env = Q) (hQ : Q < 4294967296) (hs : s.den env = m) (hs' : s'.den env = m) (hm : m < 32) :
    (IE.bin .and .u64 (.bin .shr .u64 a s) (.c (.ofNat 4294967295))).den env = (IE.wrap .u64 (.bin .shr .u32 b s')).den env := by
  show andF .u64 ((IE.bin .shr .u64 a s).den env) ((4294967295 : Nat) : Int) = wrapF .u64 ((IE.bin .shr .u32 b s').den env)
  rw [and_low, wrap_u64, shr_at hs (by show m ≤ 64; omega), shr_at hs' (by show m ≤ 32; omega), ha, hb, ← Int.natCast_ediv]
  have := Nat.div_le_self Q (2 ^ m)
  generalize Q / 2 ^ m = r at *
  omega
theorem shl_eq {k : IntKind} {a s s' : IE} {m : Nat} (hs : s.den env = m) (hs' : s'.den env = m) (hm : m ≤ k.bits) (k2 : IntKind) : (IE.wrap k2 (.bin .shl k a s)).den env = (IE.wrap k2 (.bin .shl k a s')).den env := by
  show wrapF k2 ((IE.bin .shl k a s).den env) = wrapF k2 ((IE.bin .shl k a s').den env)
  rw [shl_at hs hm, shl_at hs' hm]
theorem shr_eq {k : IntKind} {a s s' : IE} {m : Nat} (hs : s.den env = m) (hs' : s'.den env = m) (hm : m ≤ k.bits) : (IE.bin .shr k a s).den env = (IE.bin .shr k a s').den env := by
  rw [shr_at hs hm, shr_at hs' hm]
abbrev low : IE := .c (.ofNat 4294967295)
abbrev n32 : IE := .bin .and .i64 (.wrap .i64 (.bin .and .u64 (.v 1) low)) (.c (.ofNat 31))
abbrev n64 : IE := .bin .and .i64 (.wrap .i64 (.v 1)) (.c (.ofNat 63))
theorem n32_den {m : Nat} (h1 : env 1 % 32 = m) : n32.den env = m := by
  simp only [IE.den, den_and, and_low, and_i31, wrap_i64, Int.ofNat_eq_natCast]; omega
theorem n64_den {m : Nat} (h1 : env 1 % 64 = m) : n64.den env = m := by
  simp only [IE.den, den_and, and_i63, wrap_i64, Int.ofNat_eq_natCast]; omega
theorem t32_den (h0 : 0 ≤ env 1) {m : Nat} (h1 : env 1 % 32 = m) : (IE.bin .tmod .u64 (.v 1) (.c (.ofNat 32))).den env = m := by
  show (env 1).tmod 32 = m
  rw [Int.tmod_eq_emod_of_nonneg h0]; exact h1
theorem t64_den (h0 : 0 ≤ env 1) {m : Nat} (h1 : env 1 % 64 = m) : (IE.bin .tmod .u64 (.v 1) (.c (.ofNat 64))).den env = m := by
  show (env 1).tmod 64 = m
  rw [Int.tmod_eq_emod_of_nonneg h0]; exact h1
/-- A turn's own count. -/
theorem c32_den {m : Nat} (h1 : env 1 % 32 = m) : (IE.bin .and .u64 (.wrap .u64 n32) (.c (.ofNat 31))).den env = m := by
  have := n32_den h1
  show andF .u64 (wrapF .u64 (n32.den env)) ((31 : Nat) : Int) = m
  rw [and_31, wrap_u64, this]; omega
theorem b32_den {m : Nat} (h1 : env 1 % 32 = m) : (IE.bin .and .u64 (.wrap .u64 (.wrap .i64 (.bin .sub .i64 (.c (.ofNat 0)) n32))) (.c (.ofNat 31))).den env = ((32 - m) % 32 : Nat) := by
  have := n32_den h1
  show andF .u64 (wrapF .u64 (wrapF .i64 (isub 0 (n32.den env)))) ((31 : Nat) : Int) = _
  rw [and_31, wrap_u64, wrap_i64, isub_eq, this]; omega
theorem c64_den {m : Nat} (h1 : env 1 % 64 = m) : (IE.bin .and .u64 (.wrap .u64 n64) (.c (.ofNat 63))).den env = m := by
  have := n64_den h1
  show andF .u64 (wrapF .u64 (n64.den env)) ((63 : Nat) : Int) = m
  rw [and_63, wrap_u64, this]; omega
theorem b64_den {m : Nat} (h1 : env 1 % 64 = m) : (IE.bin .and .u64 (.wrap .u64 (.wrap .i64 (.bin .sub .i64 (.c (.ofNat 0)) n64))) (.c (.ofNat 63))).den env = ((64 - m) % 64 : Nat) := by
  have := n64_den h1
  show andF .u64 (wrapF .u64 (wrapF .i64 (isub 0 (n64.den env)))) ((63 : Nat) : Int) = _
  rw [and_63, wrap_u64, wrap_i64, isub_eq, this]; omega
theorem no3 (a0 : 0 ≤ env 0) (a1 : 0 ≤ env 1) : e3.den env = true → False := by
  obtain ⟨m, hm⟩ : ∃ m : Nat, env 1 % 32 = m := ⟨(env 1 % 32).toNat, by omega⟩
  refine ne_no (shl32_eq (Q := (env 0 % 4294967296).toNat) (m := m) ?_ ?_ (n32_den hm) (t32_den a1 hm) (by omega))
  · simp only [IE.den, den_and, and_low, Int.ofNat_eq_natCast]; omega
  · simp only [IE.den, wrap_u32]; omega
theorem no4 (a0 : 0 ≤ env 0) (a1 : 0 ≤ env 1) : e4.den env = true → False := by
  obtain ⟨m, hm⟩ : ∃ m : Nat, env 1 % 32 = m := ⟨(env 1 % 32).toNat, by omega⟩
  refine ne_no (shrs32_eq (q := (env 0 % 4294967296 + 2147483648) % 4294967296 - 2147483648) (m := m) ?_ ?_ (n32_den hm) (t32_den a1 hm) (by omega))
  · simp only [IE.den, den_and, and_low, wrap_i32, wrap_i64, Int.ofNat_eq_natCast]; omega
  · simp only [IE.den, wrap_u32, wrap_i32]
theorem no5 (a0 : 0 ≤ env 0) (a1 : 0 ≤ env 1) : e5.den env = true → False := by
  obtain ⟨m, hm⟩ : ∃ m : Nat, env 1 % 32 = m := ⟨(env 1 % 32).toNat, by omega⟩
  refine ne_no (shru32_eq (Q := (env 0 % 4294967296).toNat) (m := m) ?_ ?_ (by omega) (n32_den hm) (t32_den a1 hm) (by omega))
  · simp only [IE.den, den_and, and_low, Int.ofNat_eq_natCast]; omega
  · simp only [IE.den, wrap_u32]; omega
theorem no7 (a1 : 0 ≤ env 1) : e7.den env = true → False := by
  obtain ⟨m, hm⟩ : ∃ m : Nat, env 1 % 64 = m := ⟨(env 1 % 64).toNat, by omega⟩
  exact ne_no (shl_eq (m := m) (n64_den hm) (t64_den a1 hm) (by show m ≤ 64; omega) .u64)
theorem no8 (a1 : 0 ≤ env 1) : e8.den env = true → False := by
  obtain ⟨m, hm⟩ : ∃ m : Nat, env 1 % 64 = m := ⟨(env 1 % 64).toNat, by omega⟩
  refine ne_no ?_
  show wrapF .u64 (IE.den env _) = wrapF .u64 (IE.den env _)
  rw [shr_eq (m := m) (n64_den hm) (t64_den a1 hm) (by show m ≤ 64; omega)]
theorem no9 (a1 : 0 ≤ env 1) : e9.den env = true → False := by
  obtain ⟨m, hm⟩ : ∃ m : Nat, env 1 % 64 = m := ⟨(env 1 % 64).toNat, by omega⟩
  exact ne_no (shr_eq (m := m) (n64_den hm) (t64_den a1 hm) (by show m ≤ 64; omega))
theorem eq_yes {a b : IE} (h : a.den env = b.den env) : (BE.eq a b).den env = true := by
  show ieqb _ _ = true
  rw [h, ieqb_eq]; simp
theorem yes18 (a0 : 0 ≤ env 0) (b0 : env 0 ≤ 18446744073709551615) (a1 : 0 ≤ env 1) : e18.den env = true := by
  obtain ⟨m, hm⟩ : ∃ m : Nat, env 1 % 32 = m := ⟨(env 1 % 32).toNat, by omega⟩
  obtain ⟨X, hX⟩ : ∃ X : Nat, env 0 % 4294967296 = X := ⟨(env 0 % 4294967296).toNat, by omega⟩
  have hl : X < 4294967296 := by omega
  have hml : m < 32 := by omega
  have r1 := rotN_lt 32 X m (by omega) hl
  have r2 := rotN_back 32 X m hml hl
  have h1 := rot32_den (env := env) (x := .wrap .u32 (.bin .and .u64 (.v 0) low)) (X := X) (by simp only [IE.den, den_and, and_low, wrap_u32, Int.ofNat_eq_natCast]; omega) hl (c32_den hm) hml
  have h2 := rot32_den (env := env) (x := .wrap .u32 (.bin .and .u64 (.bin .and .u64 (.wrap .u64 (.bin .or .u32 (.wrap .u32 (.bin .shl .u32 (.wrap .u32 (.bin .and .u64 (.v 0) low)) (.bin .and .u64 (.wrap .u64 n32) (.c (.ofNat 31))))) (.bin .shr .u32 (.wrap .u32 (.bin .and .u64 (.v 0) low)) (.wrap .u64 (.bin .sub .u64 (.c (.ofNat 32)) (.bin .and .u64 (.wrap .u64 n32) (.c (.ofNat 31)))))))) low) low)) (X := rotN 32 X m)
    (by
      show wrapF .u32 (andF .u64 (andF .u64 (wrapF .u64 (IE.den env _)) ((4294967295 : Nat) : Int)) ((4294967295 : Nat) : Int)) = _
      rw [h1, wrap_u32, and_low, and_low, wrap_u64]
      have : (2 : Nat) ^ 32 = 4294967296 := by decide
      omega) (by have : (2 : Nat) ^ 32 = 4294967296 := by decide
                 omega) (b32_den hm) (by omega)
  refine eq_yes ?_
  show andF .u64 (wrapF .u64 (IE.den env _)) ((4294967295 : Nat) : Int) = wrapF .u64 (wrapF .u32 (env 0))
  rw [h2, r2, and_low, wrap_u64, wrap_u64, wrap_u32]
  omega
theorem yesLeaf (a0 : 0 ≤ env 0) (b0 : env 0 ≤ 18446744073709551615) (a1 : 0 ≤ env 1) : ((.eq (.bin .or .u64 (.wrap .u64 (.bin .shl .u64 (.bin .or .u64 (.wrap .u64 (.bin .shl .u64 (.v 0) (.bin .and .u64 (.wrap .u64 (.bin .and .i64 (.wrap .i64 (.v 1)) (.c (.ofNat 63)))) (.c (.ofNat 63))))) (.bin .shr .u64 (.v 0) (.wrap .u64 (.bin .sub .u64 (.c (.ofNat 64)) (.bin .and .u64 (.wrap .u64 (.bin .and .i64 (.wrap .i64 (.v 1)) (.c (.ofNat 63)))) (.c (.ofNat 63))))))) (.bin .and .u64 (.wrap .u64 (.wrap .i64 (.bin .sub .i64 (.c (.ofNat 0)) (.bin .and .i64 (.wrap .i64 (.v 1)) (.c (.ofNat 63)))))) (.c (.ofNat 63))))) (.bin .shr .u64 (.bin .or .u64 (.wrap .u64 (.bin .shl .u64 (.v 0) (.bin .and .u64 (.wrap .u64 (.bin .and .i64 (.wrap .i64 (.v 1)) (.c (.ofNat 63)))) (.c (.ofNat 63))))) (.bin .shr .u64 (.v 0) (.wrap .u64 (.bin .sub .u64 (.c (.ofNat 64)) (.bin .and .u64 (.wrap .u64 (.bin .and .i64 (.wrap .i64 (.v 1)) (.c (.ofNat 63)))) (.c (.ofNat 63))))))) (.wrap .u64 (.bin .sub .u64 (.c (.ofNat 64)) (.bin .and .u64 (.wrap .u64 (.wrap .i64 (.bin .sub .i64 (.c (.ofNat 0)) (.bin .and .i64 (.wrap .i64 (.v 1)) (.c (.ofNat 63)))))) (.c (.ofNat 63))))))) (.v 0)) : BE).den env = true := by
  obtain ⟨m, hm⟩ : ∃ m : Nat, env 1 % 64 = m := ⟨(env 1 % 64).toNat, by omega⟩
  obtain ⟨X, hX⟩ : ∃ X : Nat, env 0 = X := ⟨(env 0).toNat, by omega⟩
  have hl : X < 18446744073709551616 := by omega
  have hml : m < 64 := by omega
  have r1 := rotN_lt 64 X m (by omega) hl
  have r2 := rotN_back 64 X m hml hl
  have h1 := rot64_den (env := env) (x := .v 0) (X := X) hX hl (c64_den hm) hml
  have h2 := rot64_den (env := env) (X := rotN 64 X m) h1 r1 (b64_den hm) (by omega)
  refine eq_yes ?_
  refine h2.trans ?_
  rw [r2]; exact hX.symm
end
theorem holds {env : Nat → Int} (a0 : 0 ≤ env 0) (b0 : env 0 ≤ 18446744073709551615) (a1 : 0 ≤ env 1) (b1 : env 1 ≤ 18446744073709551615) : dt.holds env := by
  exact holds_fork
   (fun h0 => holds_fork
    (fun h1 => holds_fork
     (fun h2 => holds_fork
      (fun h3 => holds_out (no3 a0 a1 h3))
      (fun h3 => holds_fork
       (fun h4 => holds_out (no4 a0 a1 h4))
       (fun h4 => holds_fork
        (fun h5 => holds_out (no5 a0 a1 h5))
        (fun h5 => holds_fork
         (fun h6 => holds_fork
          (fun h7 => holds_out (no7 a1 h7))
          (fun h7 => holds_fork
           (fun h8 => holds_out (no8 a1 h8))
           (fun h8 => holds_fork
            (fun h9 => holds_out (no9 a1 h9))
            (fun h9 => holds_fork
             (fun h10 => holds_fork
              (fun h11 => holds_fork
               (fun h12 => holds_fork
                (fun h13 => holds_fork
                 (fun h14 => holds_fork
                  (fun h15 => holds_fork
                   (fun h16 => holds_fork
                    (fun h17 => holds_fork
                     (fun h18 => holds_leaf (yesLeaf a0 b0 a1))
                     (fun h18 => holds_out (by rw [yes18 a0 b0 a1] at h18; cases h18)))
                    (fun h17 => holds_out (by simp (disch := omega) only [e17, den_iff, BE.P, IE.den, Bool.not_true, Bool.not_false, den_add, den_sub, den_mul, den_tdiv, den_tmod, den_min, den_max, den_and, and_low, and_31, and_63, and_i31, and_i63, wrap_u8, wrap_u16, wrap_u32, wrap_u64, wrap_i8, wrap_i16, wrap_i32, wrap_i64, Int.ofNat_eq_natCast, Int.tmod_eq_emod_of_nonneg, Int.tdiv_eq_ediv_of_nonneg] at h17; omega)))
                   (fun h16 => holds_out (by simp (disch := omega) only [e16, den_iff, BE.P, IE.den, Bool.not_true, Bool.not_false, den_add, den_sub, den_mul, den_tdiv, den_tmod, den_min, den_max, den_and, and_low, and_31, and_63, and_i31, and_i63, wrap_u8, wrap_u16, wrap_u32, wrap_u64, wrap_i8, wrap_i16, wrap_i32, wrap_i64, Int.ofNat_eq_natCast, Int.tmod_eq_emod_of_nonneg, Int.tdiv_eq_ediv_of_nonneg] at h16; omega)))
                  (fun h15 => holds_out (by simp (disch := omega) only [e15, den_iff, BE.P, IE.den, Bool.not_true, Bool.not_false, den_add, den_sub, den_mul, den_tdiv, den_tmod, den_min, den_max, den_and, and_low, and_31, and_63, and_i31, and_i63, wrap_u8, wrap_u16, wrap_u32, wrap_u64, wrap_i8, wrap_i16, wrap_i32, wrap_i64, Int.ofNat_eq_natCast, Int.tmod_eq_emod_of_nonneg, Int.tdiv_eq_ediv_of_nonneg] at h15; omega)))
                 (fun h14 => holds_out (by simp (disch := omega) only [e14, den_iff, BE.P, IE.den, Bool.not_true, Bool.not_false, den_add, den_sub, den_mul, den_tdiv, den_tmod, den_min, den_max, den_and, and_low, and_31, and_63, and_i31, and_i63, wrap_u8, wrap_u16, wrap_u32, wrap_u64, wrap_i8, wrap_i16, wrap_i32, wrap_i64, Int.ofNat_eq_natCast, Int.tmod_eq_emod_of_nonneg, Int.tdiv_eq_ediv_of_nonneg] at h14; omega)))
                (fun h13 => holds_out (by simp (disch := omega) only [e13, den_iff, BE.P, IE.den, Bool.not_true, Bool.not_false, den_add, den_sub, den_mul, den_tdiv, den_tmod, den_min, den_max, den_and, and_low, and_31, and_63, and_i31, and_i63, wrap_u8, wrap_u16, wrap_u32, wrap_u64, wrap_i8, wrap_i16, wrap_i32, wrap_i64, Int.ofNat_eq_natCast, Int.tmod_eq_emod_of_nonneg, Int.tdiv_eq_ediv_of_nonneg] at h13; omega)))
               (fun h12 => holds_out (by simp (disch := omega) only [e12, den_iff, BE.P, IE.den, Bool.not_true, Bool.not_false, den_add, den_sub, den_mul, den_tdiv, den_tmod, den_min, den_max, den_and, and_low, and_31, and_63, and_i31, and_i63, wrap_u8, wrap_u16, wrap_u32, wrap_u64, wrap_i8, wrap_i16, wrap_i32, wrap_i64, Int.ofNat_eq_natCast, Int.tmod_eq_emod_of_nonneg, Int.tdiv_eq_ediv_of_nonneg] at h12; omega)))
              (fun h11 => holds_out (by simp (disch := omega) only [e11, den_iff, BE.P, IE.den, Bool.not_true, Bool.not_false, den_add, den_sub, den_mul, den_tdiv, den_tmod, den_min, den_max, den_and, and_low, and_31, and_63, and_i31, and_i63, wrap_u8, wrap_u16, wrap_u32, wrap_u64, wrap_i8, wrap_i16, wrap_i32, wrap_i64, Int.ofNat_eq_natCast, Int.tmod_eq_emod_of_nonneg, Int.tdiv_eq_ediv_of_nonneg] at h11; omega)))
             (fun h10 => holds_out (by simp (disch := omega) only [e10, den_iff, BE.P, IE.den, Bool.not_true, Bool.not_false, den_add, den_sub, den_mul, den_tdiv, den_tmod, den_min, den_max, den_and, and_low, and_31, and_63, and_i31, and_i63, wrap_u8, wrap_u16, wrap_u32, wrap_u64, wrap_i8, wrap_i16, wrap_i32, wrap_i64, Int.ofNat_eq_natCast, Int.tmod_eq_emod_of_nonneg, Int.tdiv_eq_ediv_of_nonneg] at h10; omega))))))
         (fun h6 => holds_out (by simp (disch := omega) only [e6, den_iff, BE.P, IE.den, Bool.not_true, Bool.not_false, den_add, den_sub, den_mul, den_tdiv, den_tmod, den_min, den_max, den_and, and_low, and_31, and_63, and_i31, and_i63, wrap_u8, wrap_u16, wrap_u32, wrap_u64, wrap_i8, wrap_i16, wrap_i32, wrap_i64, Int.ofNat_eq_natCast, Int.tmod_eq_emod_of_nonneg, Int.tdiv_eq_ediv_of_nonneg] at h6; omega))))))
     (fun h2 => holds_out (by simp (disch := omega) only [e2, den_iff, BE.P, IE.den, Bool.not_true, Bool.not_false, den_add, den_sub, den_mul, den_tdiv, den_tmod, den_min, den_max, den_and, and_low, and_31, and_63, and_i31, and_i63, wrap_u8, wrap_u16, wrap_u32, wrap_u64, wrap_i8, wrap_i16, wrap_i32, wrap_i64, Int.ofNat_eq_natCast, Int.tmod_eq_emod_of_nonneg, Int.tdiv_eq_ediv_of_nonneg] at h2; omega)))
    (fun h1 => holds_out (by simp (disch := omega) only [e1, den_iff, BE.P, IE.den, Bool.not_true, Bool.not_false, den_add, den_sub, den_mul, den_tdiv, den_tmod, den_min, den_max, den_and, and_low, and_31, and_63, and_i31, and_i63, wrap_u8, wrap_u16, wrap_u32, wrap_u64, wrap_i8, wrap_i16, wrap_i32, wrap_i64, Int.ofNat_eq_natCast, Int.tmod_eq_emod_of_nonneg, Int.tdiv_eq_ediv_of_nonneg] at h1; omega)))
   (fun h0 => holds_out (by simp (disch := omega) only [e0, den_iff, BE.P, IE.den, Bool.not_true, Bool.not_false, den_add, den_sub, den_mul, den_tdiv, den_tmod, den_min, den_max, den_and, and_low, and_31, and_63, and_i31, and_i63, wrap_u8, wrap_u16, wrap_u32, wrap_u64, wrap_i8, wrap_i16, wrap_i32, wrap_i64, Int.ofNat_eq_natCast, Int.tmod_eq_emod_of_nonneg, Int.tdiv_eq_ediv_of_nonneg] at h0; omega))
end Go.Vm.VNumShifts
