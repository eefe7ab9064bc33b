-- From a text of the kit's print over a variant of the program (vprint.py).
import Derived.Test.YtfjnhdbbjggkmaaPMemBytesx0
import Derived.Test.YtfjnhdbbjggkmaaPMemBytesx2
namespace Go.Proofs.Ytfjnhdbbjggkmaa.PMemBytes
open Go.RowKit Go.Proofs.YtfjnhdbbjggkmaaW.PrintWords Go.Proofs.YtfjnhdbbjggkmaaW.PrintLast Go.Proofs.YtfjnhdbbjggkmaaW.PrintMore
attribute [local go_sem] max2_int min2_int max_two min_two max_three min_three max_four min_four   -- for this text's walks alone
set_option linter.unusedVariables false
set_option linter.unusedSimpArgs false

/-! ### mem_Fits: function 15 -/
def mem_Fits.f (a0 : Int) (a1 : Int) (a2 : Int) : Option (Bool) := if a0 ≥ 0 then (if a1 ≤ (IntKind.u64.wrap (a0)) then (some (decide (a2 ≤ (IntKind.u64.wrap ((IntKind.u64.wrap (a0)) - a1))))) else (some false)) else (some false)
set_option maxHeartbeats 8000000 in
set_option maxRecDepth 100000 in
theorem mem_Fits.calls (a0 : Int) (a1 : Int) (a2 : Int) (r : Bool) (w : World) (h : mem_Fits.f a0 a1 a2 = some r) :
    Calls Try.prog 15 #[.int .i64 a0, .int .u64 a1, .int .u64 a2] w fun e w' => e = .returned (.bool r) ∧ Drawn0 w w' := by
  have H : (if a0 ≥ 0 then (if a1 ≤ (IntKind.u64.wrap (a0)) then (some (decide (a2 ≤ (IntKind.u64.wrap ((IntKind.u64.wrap (a0)) - a1))))) else (some false)) else (some false)) = some r := h
  clear h
  by_cases c4 : a0 ≥ 0
  · rw [if_pos c4] at H
    have c4b0 : decide (0 ≤ a0) = true := decide_eq_true c4
    clear c4
    by_cases c5 : a1 ≤ (IntKind.u64.wrap (a0))
    · rw [if_pos c5] at H
      have c5b0 : decide (a1 ≤ (IntKind.u64.wrap (a0))) = true := decide_eq_true c5
      clear c5
      obtain rfl := Option.some.inj H
      go_enter Try.func15, Try.ntmps15
      go_wp2
      go_ret
      exact ⟨by first | rfl | (simp; done) | (simp [*]; done), by repeat (first | exact Drawn0.refl _ | apply Drawn0.step)⟩
    · rw [if_neg c5] at H
      have c5b0 : decide (a1 ≤ (IntKind.u64.wrap (a0))) = false := decide_eq_false c5
      clear c5
      obtain rfl := Option.some.inj H
      go_enter Try.func15, Try.ntmps15
      go_wp2
      go_ret
      exact ⟨by first | rfl | (simp; done) | (simp [*]; done), by repeat (first | exact Drawn0.refl _ | apply Drawn0.step)⟩
  · rw [if_neg c4] at H
    have c4b0 : decide (0 ≤ a0) = false := decide_eq_false c4
    clear c4
    obtain rfl := Option.some.inj H
    go_enter Try.func15, Try.ntmps15
    go_wp2
    go_ret
    exact ⟨by first | rfl | (simp; done) | (simp [*]; done), by repeat (first | exact Drawn0.refl _ | apply Drawn0.step)⟩

/-! ### mem_signed: function 27 -/
def mem_signed.f (a0 : Int) (a1 : Int) : Option (Int) := if a0 = 44 then (some ((wrap32 (IntKind.i8.wrap (a1))) % 4294967296)) else (if a0 = 46 then (some ((wrap32 (IntKind.i16.wrap (a1))) % 4294967296)) else (if a0 = 48 then (some (IntKind.u64.wrap (wrap64 (IntKind.i8.wrap (a1))))) else (if a0 = 50 then (some (IntKind.u64.wrap (wrap64 (IntKind.i16.wrap (a1))))) else (if a0 = 52 then (some (IntKind.u64.wrap (wrap64 (wrap32 (a1))))) else (some a1)))))
set_option maxHeartbeats 8000000 in
set_option maxRecDepth 100000 in
theorem mem_signed.calls (a0 : Int) (a1 : Int) (r : Int) (w : World) (h : mem_signed.f a0 a1 = some r) :
    Calls Try.prog 27 #[.int .i64 a0, .int .u64 a1] w fun e w' => e = .returned (.int .u64 r) ∧ Drawn0 w w' := by
  have H : (if a0 = 44 then (some ((wrap32 (IntKind.i8.wrap (a1))) % 4294967296)) else (if a0 = 46 then (some ((wrap32 (IntKind.i16.wrap (a1))) % 4294967296)) else (if a0 = 48 then (some (IntKind.u64.wrap (wrap64 (IntKind.i8.wrap (a1))))) else (if a0 = 50 then (some (IntKind.u64.wrap (wrap64 (IntKind.i16.wrap (a1))))) else (if a0 = 52 then (some (IntKind.u64.wrap (wrap64 (wrap32 (a1))))) else (some a1)))))) = some r := h
  clear h
  by_cases c3 : a0 = 44
  · rw [if_pos c3] at H
    have c3b0 : (a0 == 44) = true := beq_iff_eq.mpr c3
    have c3b1 : (a0 != 44) = false := bne_eq_false_iff_eq.mpr c3
    clear c3
    obtain rfl := Option.some.inj H
    go_enter Try.func27, Try.ntmps27
    go_wp2
    go_ret
    exact ⟨by first | rfl | (simp; done) | (simp [*]; done), by repeat (first | exact Drawn0.refl _ | apply Drawn0.step)⟩
  · rw [if_neg c3] at H
    have c3b0 : (a0 == 44) = false := beq_eq_false_iff_ne.mpr c3
    have c3b1 : (a0 != 44) = true := bne_iff_ne.mpr c3
    by_cases c4 : a0 = 46
    · rw [if_pos c4] at H
      have c4b0 : (a0 == 46) = true := beq_iff_eq.mpr c4
      have c4b1 : (a0 != 46) = false := bne_eq_false_iff_eq.mpr c4
      clear c4
      obtain rfl := Option.some.inj H
      go_enter Try.func27, Try.ntmps27
      go_wp2
      go_ret
      exact ⟨by first | rfl | (simp; done) | (simp [*]; done), by repeat (first | exact Drawn0.refl _ | apply Drawn0.step)⟩
    · rw [if_neg c4] at H
      have c4b0 : (a0 == 46) = false := beq_eq_false_iff_ne.mpr c4
      have c4b1 : (a0 != 46) = true := bne_iff_ne.mpr c4
      by_cases c5 : a0 = 48
      · rw [if_pos c5] at H
        have c5b0 : (a0 == 48) = true := beq_iff_eq.mpr c5
        have c5b1 : (a0 != 48) = false := bne_eq_false_iff_eq.mpr c5
        clear c5
        obtain rfl := Option.some.inj H
        go_enter Try.func27, Try.ntmps27
        go_wp2
        go_ret
        exact ⟨by first | rfl | (simp; done) | (simp [*]; done), by repeat (first | exact Drawn0.refl _ | apply Drawn0.step)⟩
      · rw [if_neg c5] at H
        have c5b0 : (a0 == 48) = false := beq_eq_false_iff_ne.mpr c5
        have c5b1 : (a0 != 48) = true := bne_iff_ne.mpr c5
        by_cases c6 : a0 = 50
        · rw [if_pos c6] at H
          have c6b0 : (a0 == 50) = true := beq_iff_eq.mpr c6
          have c6b1 : (a0 != 50) = false := bne_eq_false_iff_eq.mpr c6
          clear c6
          obtain rfl := Option.some.inj H
          go_enter Try.func27, Try.ntmps27
          go_wp2
          go_ret
          exact ⟨by first | rfl | (simp; done) | (simp [*]; done), by repeat (first | exact Drawn0.refl _ | apply Drawn0.step)⟩
        · rw [if_neg c6] at H
          have c6b0 : (a0 == 50) = false := beq_eq_false_iff_ne.mpr c6
          have c6b1 : (a0 != 50) = true := bne_iff_ne.mpr c6
          by_cases c7 : a0 = 52
          · rw [if_pos c7] at H
            have c7b0 : (a0 == 52) = true := beq_iff_eq.mpr c7
            have c7b1 : (a0 != 52) = false := bne_eq_false_iff_eq.mpr c7
            clear c7
            obtain rfl := Option.some.inj H
            go_enter Try.func27, Try.ntmps27
            go_wp2
            go_ret
            exact ⟨by first | rfl | (simp; done) | (simp [*]; done), by repeat (first | exact Drawn0.refl _ | apply Drawn0.step)⟩
          · rw [if_neg c7] at H
            have c7b0 : (a0 == 52) = false := beq_eq_false_iff_ne.mpr c7
            have c7b1 : (a0 != 52) = true := bne_iff_ne.mpr c7
            obtain rfl := Option.some.inj H
            go_enter Try.func27, Try.ntmps27
            go_wp2
            go_ret
            exact ⟨by first | rfl | (simp; done) | (simp [*]; done), by repeat (first | exact Drawn0.refl _ | apply Drawn0.step)⟩

end Go.Proofs.Ytfjnhdbbjggkmaa.PMemBytes
