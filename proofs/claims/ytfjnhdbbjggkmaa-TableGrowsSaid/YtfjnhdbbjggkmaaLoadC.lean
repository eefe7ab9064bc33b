/- What a load reads: the contracts of mem.part and mem.Load. -/
import Derived.Test.YtfjnhdbbjggkmaaPMemBytesx0
import Derived.Test.YtfjnhdbbjggkmaaPMemBytesx3a
import Derived.Lib.Hide
import Derived.Outline
import Derived.Deep.Slices
import Derived.LoopTactic
set_option linter.unusedVariables false
set_option linter.unusedSimpArgs false
namespace Go.Proofs.Ytfjnhdbbjggkmaa.Mem
open Go.RowKit Go.Proofs.YtfjnhdbbjggkmaaW.PrintWords Go.Proofs.YtfjnhdbbjggkmaaW.PrintLast Go.Proofs.YtfjnhdbbjggkmaaW.PrintMore Go.Proofs.Ytfjnhdbbjggkmaa.PMemBytes
/-- How many bytes a load moves. -/
def ldW (op : Int) : Option Nat := if op = 44 ∨ op = 45 ∨ op = 48 ∨ op = 49 then some 1 else if op = 46 ∨ op = 47 ∨ op = 50 ∨ op = 51 then some 2 else if op = 40 ∨ op = 52 ∨ op = 53 then some 4 else if op = 41 then some 8 else none
def stW (op : Int) : Option Nat := if op = 58 ∨ op = 60 then some 1 else if op = 59 ∨ op = 61 then some 2 else if op = 54 ∨ op = 62 then some 4 else if op = 55 then some 8 else none
theorem ldW_ok {op : Int} {n : Nat} (h : ldW op = some n) : mem_width.f 20 op false = some (n : Int) ∧ 0 < n ∧ n ≤ 8 := by
  unfold ldW at h
  split at h
  · rename_i hh; cases h; rcases hh with rfl | rfl | rfl | rfl <;> exact ⟨by decide, by decide, by decide⟩
  split at h
  · rename_i hh; cases h; rcases hh with rfl | rfl | rfl | rfl <;> exact ⟨by decide, by decide, by decide⟩
  split at h
  · rename_i hh; cases h; rcases hh with rfl | rfl | rfl <;> exact ⟨by decide, by decide, by decide⟩
  split at h
  · rename_i hh; cases h; subst hh; exact ⟨by decide, by decide, by decide⟩
  cases h
theorem stW_ok {op : Int} {n : Nat} (h : stW op = some n) : mem_width.f 20 op true = some (n : Int) ∧ 0 < n ∧ n ≤ 8 := by
  unfold stW at h
  split at h
  · rename_i hh; cases h; rcases hh with rfl | rfl <;> exact ⟨by decide, by decide, by decide⟩
  split at h
  · rename_i hh; cases h; rcases hh with rfl | rfl <;> exact ⟨by decide, by decide, by decide⟩
  split at h
  · rename_i hh; cases h; rcases hh with rfl | rfl <;> exact ⟨by decide, by decide, by decide⟩
  split at h
  · rename_i hh; cases h; subst hh; exact ⟨by decide, by decide, by decide⟩
  cases h
theorem width_ld (op : Int) (n : Nat) (h : ldW op = some n) (w : World) : Calls Try.prog 32 #[.int .i64 op, .bool false] w fun e w' => e = .returned (.int .i64 n) ∧ Drawn0 w w' := mem_width.calls 20 op false n w (ldW_ok h).1
theorem width_st (op : Int) (n : Nat) (h : stW op = some n) (w : World) : Calls Try.prog 32 #[.int .i64 op, .bool true] w fun e w' => e = .returned (.int .i64 n) ∧ Drawn0 w w' := mem_width.calls 20 op true n w (stW_ok h).1
theorem wrap_u64k (x : Int) : IntKind.u64.wrap x = x % 18446744073709551616 := by simp [IntKind.wrap, IntKind.bits, IntKind.signed]
theorem fits_yes (len a n : Nat) (h : a + n ≤ len) (hl : len ≤ 9223372036854775807) (w : World) : Calls Try.prog 15 #[.int .i64 len, .int .u64 a, .int .u64 n] w fun e w' => e = .returned (.bool true) ∧ w' = w := by
  have d : decide ((n : Int) ≤ (len : Int) - (a : Int)) = true := decide_eq_true (by omega)
  go_enter Try.func15, Try.ntmps15
  go_wp2
  all_goals (go_ret; exact ⟨rfl, rfl⟩)
theorem fits_no (len a n : Nat) (h : len < a + n) (ha : a < 18446744073709551616) (hn : n < 18446744073709551616) (hl : len ≤ 9223372036854775807) (w : World) : Calls Try.prog 15 #[.int .i64 len, .int .u64 a, .int .u64 n] w fun e w' => e = .returned (.bool false) ∧ w' = w := by
  by_cases h1 : a ≤ len
  · have d : decide ((n : Int) ≤ (len : Int) - (a : Int)) = false := decide_eq_false (by omega)
    go_enter Try.func15, Try.ntmps15
    go_wp2
    all_goals (go_ret; exact ⟨rfl, rfl⟩)
  · go_enter Try.func15, Try.ntmps15
    go_wp2
    all_goals (go_ret; exact ⟨rfl, rfl⟩)
/-- Where a load, or a store, is. -/
def atOf (base off : Int) : Nat := (IntKind.u64.wrap (Go.bits .and .u64 base 4294967295 + IntKind.u64.wrap off)).toNat
theorem atOf_int (base off : Int) : IntKind.u64.wrap (Go.bits .and .u64 base 4294967295 + IntKind.u64.wrap off) = ((atOf base off : Nat) : Int) := by
  unfold atOf; rw [wrap_u64k]; omega
theorem atOf_lt (base off : Int) : atOf base off < 18446744073709551616 := by
  unfold atOf; rw [wrap_u64k]; omega
set_option maxHeartbeats 1000000 in
theorem part_yes (st : Bool) (ad : Addr) (len cap n : Nat) (op base off : Int) (w : World) (hw : ∀ w, Calls Try.prog 32 #[.int .i64 op, .bool st] w fun e w' => e = .returned (.int .i64 n) ∧ Drawn0 w w') (hn : 0 < n ∧ n ≤ 8) (hl : len ≤ 9223372036854775807) (hcap : len ≤ cap)
    (hfit : atOf base off + n ≤ len) : Calls Try.prog 26 #[.slice (some ad) len cap, .int .i64 op, .int .u64 base, .int .u32 off, .bool st] w fun e w' => e = .returned (.tuple #[.slice (some (ad.add (atOf base off))) n (cap - atOf base off), .int .i64 0]) ∧ Drawn0 w w' := by
  have HA := Lib.hid (atOf_int base off)
  have hne : ((n : Int) == 0) = false := by rw [beq_eq_false_iff_ne]; omega
  have hlt := atOf_lt base off
  generalize atOf base off = a at HA hfit hlt ⊢
  have HW := Lib.hid hw
  clear hw
  go_enter Try.func26, Try.ntmps26
  go_wp2_with fail
  refine (HW.out _).mono ?_
  rintro e w' ⟨rfl, ⟨nd, rfl⟩⟩
  go_wp2_with fail
  rw [HA.out]
  refine (fits_yes len a n hfit hl _).mono ?_
  rintro e w' ⟨rfl, rfl⟩
  have e1 : IntKind.u64.wrap ((a : Int) + (n : Int)) = (a : Int) + (n : Int) := by rw [wrap_u64k]; omega
  go_wp2
  go_ret2
  refine ⟨?_, ⟨⟨nd, rfl⟩⟩⟩
  have e2 : a + n - a = n := by omega
  show Ending.returned (.tuple #[.slice (some (ad.add a)) (a + n - a) (cap - a), .int .i64 0]) = _
  rw [e2]
set_option maxHeartbeats 1000000 in
theorem part_no (st : Bool) (A0 : Option Addr) (len cap n : Nat) (op base off : Int) (w : World) (hw : ∀ w, Calls Try.prog 32 #[.int .i64 op, .bool st] w fun e w' => e = .returned (.int .i64 n) ∧ Drawn0 w w') (hn : 0 < n ∧ n ≤ 8) (hl : len ≤ 9223372036854775807)
    (hfit : len < atOf base off + n) : Calls Try.prog 26 #[.slice A0 len cap, .int .i64 op, .int .u64 base, .int .u32 off, .bool st] w fun e w' => e = .returned (.tuple #[.slice none 0 0, .int .i64 7]) ∧ Drawn0 w w' := by
  have HA := Lib.hid (atOf_int base off)
  have hne : ((n : Int) == 0) = false := by rw [beq_eq_false_iff_ne]; omega
  have hlt := atOf_lt base off
  generalize atOf base off = a at HA hfit hlt ⊢
  have HW := Lib.hid hw
  clear hw
  go_enter Try.func26, Try.ntmps26
  go_wp2_with fail
  refine (HW.out _).mono ?_
  rintro e w' ⟨rfl, ⟨nd, rfl⟩⟩
  go_wp2_with fail
  rw [HA.out]
  refine (fits_no len a n hfit hlt (by omega) hl _).mono ?_
  rintro e w' ⟨rfl, rfl⟩
  go_wp2
  go_ret2
  exact ⟨rfl, ⟨⟨nd, rfl⟩⟩⟩
/-- A number, its lowest byte first: the bytes from a place on. -/
def leF (l : List Int) (at_ : Nat) : Nat → Int
  | 0 => 0
  | n + 1 => Go.bits .or .u64 (IntKind.u64.wrap (leF l (at_ + 1) n * 256)) (IntKind.u64.wrap (l.getD at_ 0))
set_option maxHeartbeats 1000000 in
theorem load_yes (ad : Addr) (l : List Int) (cap n : Nat) (op base off r : Int) (w : World) (hw : ldW op = some n) (hr : Kd.C (Kd.int .u8) w (some ad) l.length l) (hcap : l.length ≤ cap)
    (hfit : atOf base off + n ≤ l.length) (hs : mem_signed.f op (leF l (atOf base off) n) = some r) :
    Calls Try.prog 14 #[.slice (some ad) l.length cap, .int .i64 op, .int .u64 base, .int .u32 off] w fun e w' => e = .returned (.tuple #[.int .u64 r, .int .i64 0]) ∧ Drawn0 w w' := by
  have hn := (ldW_ok hw).2
  have hl : l.length ≤ 9223372036854775807 := hr.2.1
  have HR := Lib.hid hr
  have HS := Lib.hid hs
  clear hr hs
  go_enter Try.func14, Try.ntmps14
  go_wp2_with fail
  refine (part_yes false ad l.length cap n op base off _ (fun w => width_ld op n hw w) hn hl hcap hfit).mono ?_
  rintro e w' ⟨rfl, ⟨nd, rfl⟩⟩
  generalize atOf base off = a at hfit HS ⊢
  go_wp2_with fail
  go_loop [8, 11] (fun v i => ∃ j : Nat, j ≤ n ∧ i = .int .i64 ((j : Int) - 1) ∧ v = .int .u64 (leF l (a + j) (n - j))) (fun _ i => ((intOf i) + 1).toNat)
  case atStart => exact ⟨n, Nat.le_refl _, rfl, by rw [Nat.sub_self]; rfl⟩
  case round =>
    obtain ⟨j, hj, rfl, rfl⟩ := hrel
    rcases Nat.eq_zero_or_pos j with hz | hz
    · subst hz
      have hneg : decide (((0 : Nat) : Int) - 1 ≥ 0) = false := rfl
      rw [Nat.add_zero, Nat.sub_zero]
      go_wp2_with fail
      refine (mem_signed.calls op _ r _ HS.out).mono ?_
      rintro e w' ⟨rfl, ⟨nd2, rfl⟩⟩
      go_wp2
      go_ret2
      exact ⟨rfl, ⟨⟨nd + nd2, rfl⟩⟩⟩
    · obtain ⟨m, rfl⟩ : ∃ m, j = m + 1 := ⟨j - 1, by omega⟩
      have em : ((m + 1 : Nat) : Int) - 1 = (m : Int) := by omega
      obtain ⟨ad', he, hc⟩ := Kd.at_int HR.out ((a + m : Nat) : Int) (by omega) (by omega)
      obtain rfl := Option.some.inj he
      rw [Int.toNat_natCast, ← Go.Deep.add_add] at hc
      rw [em]
      go_wp2
      go_round
      case rel =>
        refine ⟨m, by omega, rfl, ?_⟩
        have hq : n - m = (n - (m + 1)) + 1 := by omega
        have ha : a + (m + 1) = (a + m) + 1 := by omega
        have hr : rd l ((a : Int) + (m : Int)) = l.getD (a + m) 0 := by
          unfold rd
          rw [show ((a : Int) + (m : Int)).toNat = a + m by omega]
        rw [hq, ha, hr]
        rfl
      case measure => (simp [intOf]; try omega)
set_option maxHeartbeats 1000000 in
theorem load_no (A0 : Option Addr) (len cap n : Nat) (op base off : Int) (w : World) (hw : ldW op = some n) (hl : len ≤ 9223372036854775807) (hfit : len < atOf base off + n) :
    Calls Try.prog 14 #[.slice A0 len cap, .int .i64 op, .int .u64 base, .int .u32 off] w fun e w' => e = .returned (.tuple #[.int .u64 0, .int .i64 7]) ∧ Drawn0 w w' := by
  go_enter Try.func14, Try.ntmps14
  go_wp2_with fail
  refine (part_no false A0 len cap n op base off _ (fun w => width_ld op n hw w) (ldW_ok hw).2 hl hfit).mono ?_
  rintro e w' ⟨rfl, ⟨nd, rfl⟩⟩
  go_wp2
  go_ret2
  exact ⟨rfl, ⟨⟨nd, rfl⟩⟩⟩
end Go.Proofs.Ytfjnhdbbjggkmaa.Mem
