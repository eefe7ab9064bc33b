/- The contracts of math/bits, and of what the reference answers of one number, by the walk. -/
import Derived.Test.YtdhnjhbefhmcnaaGreatDoorRows
import Derived.WalkKit
import Derived.WalkSpells
import Derived.BigCall
import Derived.Below
import Derived.Laws.MathBits
import Derived.Laws.BitsAll
import Derived.Test.YtdhnjhbefhmcnaaGreatDoorVmTree
import Derived.Laws.BitsAllLaws
import Derived.Deep.QuietTactic
import Derived.BigQuiet
import Derived.Outline
import Derived.LoopTactic
import Derived.Lib.Hide
set_option linter.unusedVariables false
set_option linter.unusedSimpArgs false
namespace Go.Vm.Bits
open Go.RowKit Go.Proofs
theorem wrap64_small (x : Int) (h0 : 0 ≤ x) (h1 : x < 9223372036854775808) : wrap64 x = x := by unfold wrap64; omega
theorem fin {n m : Int} (s : Nat) (hs : s ≤ 56) (hn : 0 ≤ n) (hm : m = n / ((2 ^ s : Nat) : Int)) (h8 : m < 256) (hne : s = 0 ∨ m ≠ 0) : wrap64 ((s : Int) + wrap64 ((bitLen m.toNat : Nat) : Int)) = ((bitLen n.toNat : Nat) : Int) := by
  have hp : (0 : Int) < ((2 ^ s : Nat) : Int) := by exact_mod_cast Nat.two_pow_pos s
  have hm0 : 0 ≤ m := by rw [hm]; exact Int.ediv_nonneg hn (Int.le_of_lt hp)
  have h8' := bitLen_le8 m.toNat (by omega)
  have e : m.toNat = n.toNat / 2 ^ s := by
    obtain ⟨k, rfl⟩ : ∃ k : Nat, n = k := ⟨n.toNat, by omega⟩
    rw [hm, ← Int.natCast_ediv]
    rfl
  have hb : bitLen n.toNat = s + bitLen m.toNat := by
    rcases hne with h | h
    · subst h; rw [e]; simp
    · rw [e]; exact bitLen_shift _ _ (by rw [← e]; omega)
  rw [hb, wrap64_small ((bitLen m.toNat : Nat) : Int) (by omega) (by omega), wrap64_small _ (by omega) (by omega)]
  omega
set_option maxRecDepth 100000 in
set_option maxHeartbeats 4000000 in
theorem len64 (n : Int) (h0 : 0 ≤ n) (h1 : n ≤ 18446744073709551615) (w : World) :
    Calls Tryz.prog 123 #[.int .u64 n] w fun e w' => e = .returned (.int .i64 (bitLen n.toNat)) ∧ w' = w := by
  go_enter Tryz.func123, Tryz.ntmps123
  go_wp2
  all_goals go_ret
  all_goals (refine ⟨?_, rfl⟩; rw [len8tab_get]; refine congrArg Ending.returned ?_; refine congrArg (Value.int .i64) (?_ : wrap64 _ = _))
  all_goals first
    | exact fin 56 (by omega) h0 (by omega) (by omega) (.inr (by omega))
    | exact fin 48 (by omega) h0 (by omega) (by omega) (.inr (by omega))
    | exact fin 40 (by omega) h0 (by omega) (by omega) (.inr (by omega))
    | exact fin 32 (by omega) h0 (by omega) (by omega) (.inr (by omega))
    | exact fin 24 (by omega) h0 (by omega) (by omega) (.inr (by omega))
    | exact fin 16 (by omega) h0 (by omega) (by omega) (.inr (by omega))
    | exact fin 8 (by omega) h0 (by omega) (by omega) (.inr (by omega))
    | exact fin 0 (by omega) h0 (by omega) (by omega) (.inl rfl)
    | (have := bitLen_le8 n.toNat (by omega); rw [wrap64_small ((bitLen n.toNat : Nat) : Int) (by omega) (by omega), wrap64_small _ (by omega) (by omega)])
set_option maxRecDepth 100000 in
set_option maxHeartbeats 4000000 in
theorem len32 (n : Int) (h0 : 0 ≤ n) (h1 : n ≤ 4294967295) (w : World) :
    Calls Tryz.prog 122 #[.int .u32 n] w fun e w' => e = .returned (.int .i64 (bitLen n.toNat)) ∧ w' = w := by
  go_enter Tryz.func122, Tryz.ntmps122
  go_wp2
  all_goals go_ret
  all_goals (refine ⟨?_, rfl⟩; rw [len8tab_get]; refine congrArg Ending.returned ?_; refine congrArg (Value.int .i64) (?_ : wrap64 _ = _))
  all_goals first
    | exact fin 24 (by omega) h0 (by omega) (by omega) (.inr (by omega))
    | exact fin 16 (by omega) h0 (by omega) (by omega) (.inr (by omega))
    | exact fin 8 (by omega) h0 (by omega) (by omega) (.inr (by omega))
    | exact fin 0 (by omega) h0 (by omega) (by omega) (.inl rfl)
    | (have := bitLen_le8 n.toNat (by omega); rw [wrap64_small ((bitLen n.toNat : Nat) : Int) (by omega) (by omega), wrap64_small _ (by omega) (by omega)])
theorem bitLen_le {n b : Nat} (h : n < 2 ^ b) : bitLen n ≤ b := by
  unfold bitLen
  split
  · omega
  · rename_i h0
    exact (Nat.log2_lt h0).2 h
set_option maxHeartbeats 4000000 in
theorem lz64 (n : Int) (h0 : 0 ≤ n) (h1 : n ≤ 18446744073709551615) (w : World) :
    Calls Tryz.prog 104 #[.int .u64 n] w fun e w' => e = .returned (.int .i64 (64 - (bitLen n.toNat : Int))) ∧ w' = w := by
  have hb : bitLen n.toNat ≤ 64 := bitLen_le (by omega)
  go_enter Tryz.func104, Tryz.ntmps104
  go_wp2_with (go_at_call 123; refine (len64 n h0 h1 _).mono ?_; rintro e w' ⟨rfl, rfl⟩)
  go_ret
  exact ⟨rfl, rfl⟩
set_option maxHeartbeats 4000000 in
theorem lz32 (n : Int) (h0 : 0 ≤ n) (h1 : n ≤ 4294967295) (w : World) :
    Calls Tryz.prog 101 #[.int .u32 n] w fun e w' => e = .returned (.int .i64 (32 - (bitLen n.toNat : Int))) ∧ w' = w := by
  have hb : bitLen n.toNat ≤ 32 := bitLen_le (by omega)
  go_enter Tryz.func101, Tryz.ntmps101
  go_wp2_with (go_at_call 122; refine (len32 n h0 h1 _).mono ?_; rintro e w' ⟨rfl, rfl⟩)
  go_ret
  exact ⟨rfl, rfl⟩
end Go.Vm.Bits
namespace Go.Vm.Bits
open Go.Vm
theorem land_compl (k m : Nat) (h : m < 2 ^ k) : Nat.land m (2 ^ k - 1 - m) = 0 := by
  show m &&& (2 ^ k - 1 - m) = 0
  apply Nat.eq_of_testBit_eq
  intro i
  rw [Nat.testBit_and, Nat.zero_testBit, show 2 ^ k - 1 - m = 2 ^ k - (m + 1) by omega, Nat.testBit_two_pow_sub_succ h]
  cases m.testBit i <;> simp
theorem land_two (a b : Nat) : Nat.land (2 * a) (2 * b) = 2 * Nat.land a b := by
  have := Nat.shiftLeft_and_distrib (a := a) (b := b) (i := 1)
  rw [Nat.shiftLeft_eq, Nat.shiftLeft_eq, Nat.shiftLeft_eq] at this
  show (2 * a) &&& (2 * b) = 2 * (a &&& b)
  rw [show 2 * a = a * 2 ^ 1 by omega, show 2 * b = b * 2 ^ 1 by omega, ← this]
  omega
theorem land_odd (a b : Nat) : Nat.land (2 * a + 1) (2 * b + 1) = 2 * Nat.land a b + 1 := by
  show (2 * a + 1) &&& (2 * b + 1) = 2 * (a &&& b) + 1
  have h1 : ((2 * a + 1) &&& (2 * b + 1)) / 2 = a &&& b := by
    rw [Nat.and_div_two, show (2 * a + 1) / 2 = a by omega, show (2 * b + 1) / 2 = b by omega]
  have h2 : ((2 * a + 1) &&& (2 * b + 1)) % 2 = 1 := by
    have h3 : ((2 * a + 1) &&& (2 * b + 1)).testBit 0 = true := by
      rw [Nat.testBit_and]
      simp [Nat.testBit_zero]
    rw [Nat.testBit_zero] at h3
    exact of_decide_eq_true h3
  omega
theorem land_low : ∀ (t w m : Nat), 2 ^ t * (2 * m + 1) < 2 ^ w → Nat.land (2 ^ t * (2 * m + 1)) (2 ^ w - 2 ^ t * (2 * m + 1)) = 2 ^ t
  | 0, w, m, h => by
    cases w with
    | zero => simp at h
    | succ k =>
      have e : 2 ^ (k + 1) = 2 * 2 ^ k := by rw [Nat.pow_succ]; omega
      have hm : m < 2 ^ k := by rw [e] at h; omega
      rw [Nat.pow_zero, Nat.one_mul, show 2 ^ (k + 1) - (2 * m + 1) = 2 * (2 ^ k - 1 - m) + 1 by omega, land_odd, land_compl k m hm]
  | t + 1, w, m, h => by
    cases w with
    | zero => have := Nat.pos_of_ne_zero (Nat.ne_of_gt (Nat.two_pow_pos (t + 1))); have h2 : 0 < 2 ^ (t + 1) * (2 * m + 1) := Nat.mul_pos (Nat.two_pow_pos _) (by omega); simp at h; omega
    | succ k =>
      have e : 2 ^ (k + 1) = 2 * 2 ^ k := by rw [Nat.pow_succ]; omega
      have e2 : 2 ^ (t + 1) * (2 * m + 1) = 2 * (2 ^ t * (2 * m + 1)) := by rw [Nat.pow_succ, Nat.mul_comm (2 ^ t) 2, Nat.mul_assoc]
      rw [e2] at h ⊢
      rw [e] at h ⊢
      have hi := land_low t k m (by omega)
      rw [show 2 * 2 ^ k - 2 * (2 ^ t * (2 * m + 1)) = 2 * (2 ^ k - 2 ^ t * (2 * m + 1)) by omega, land_two, hi, Nat.pow_succ]
      omega
theorem tz_spec : ∀ (w n : Nat), 0 < n → n < 2 ^ w → tzN w n < w ∧ ∃ m, n = 2 ^ tzN w n * (2 * m + 1)
  | 0, n, h0, h => by simp at h; omega
  | w + 1, n, h0, h => by
    have e : 2 ^ (w + 1) = 2 * 2 ^ w := by rw [Nat.pow_succ]; omega
    have hd : tzN (w + 1) n = match n % 2 with | 0 => tzN w (n / 2) + 1 | _ => 0 := rfl
    rcases Nat.mod_two_eq_zero_or_one n with hm | hm
    · rw [hm] at hd
      replace hd : tzN (w + 1) n = tzN w (n / 2) + 1 := hd
      obtain ⟨h1, m, h2⟩ := tz_spec w (n / 2) (by omega) (by omega)
      refine ⟨by omega, m, ?_⟩
      rw [hd, Nat.pow_succ, Nat.mul_comm _ 2, Nat.mul_assoc, ← h2]
      omega
    · rw [hm] at hd
      replace hd : tzN (w + 1) n = 0 := hd
      exact ⟨by omega, n / 2, by rw [hd]; omega⟩
theorem land_neg (w n : Nat) (h0 : 0 < n) (h : n < 2 ^ w) : Nat.land n (2 ^ w - n) = 2 ^ tzN w n := by
  obtain ⟨h1, m, h2⟩ := tz_spec w n h0 h
  have := land_low (tzN w n) w m (by rw [← h2]; exact h)
  rw [← h2] at this
  exact this
end Go.Vm.Bits
namespace Go.Vm.Bits
open Go.RowKit Go.Proofs Go.Vm
def tab64 : List Nat := [0, 1, 56, 2, 57, 49, 28, 3, 61, 58, 42, 50, 38, 29, 17, 4, 62, 47, 59, 36, 45, 43, 51, 22, 53, 39, 33, 30, 24, 18, 12, 5, 63, 55, 48, 27, 60, 41, 37, 16, 46, 35, 44, 21, 52, 32, 23, 11, 54, 26, 40, 15, 34, 20, 31, 10, 25, 14, 19, 9, 13, 8, 7, 6]
theorem tab64_ok : ∀ k : Fin 64, tab64.getD ((2 ^ k.val * 285870213051353865) % 18446744073709551616 / 288230376151711744) 0 = k.val ∧ (2 ^ k.val * 285870213051353865) % 18446744073709551616 / 288230376151711744 < 64 := by decide +kernel
theorem neg64 (n : Int) (h0 : 0 < n) (h1 : n ≤ 18446744073709551615) : bits .and .u64 n (IntKind.u64.wrap (-n)) = ((2 ^ tzN 64 n.toNat : Nat) : Int) := by
  obtain ⟨k, rfl⟩ : ∃ k : Nat, n = k := ⟨n.toNat, by omega⟩
  have e : IntKind.u64.wrap (-(k : Int)) = ((18446744073709551616 - k : Nat) : Int) := by
    rw [← wrapF_eq, wrap_u64]; omega
  rw [e]
  have h := land_neg 64 k (by omega) (by omega)
  rw [u64_and_nat k _ (by omega) (by omega)]
  exact congrArg _ h
set_option maxHeartbeats 4000000 in
set_option maxRecDepth 100000 in
theorem tz64 (n : Int) (h0 : 0 ≤ n) (h1 : n ≤ 18446744073709551615) (w : World) (hcell : ∀ i, i < 64 → w.cell? ⟨1, i, none⟩ = some (.int .u8 (tab64.getD i 0))) :
    Calls Tryz.prog 105 #[.int .u64 n] w fun e w' => e = .returned (.int .i64 (tzN 64 n.toNat : Nat)) ∧ w' = w := by
  by_cases hn : n = 0
  · subst hn
    go_enter Tryz.func105, Tryz.ntmps105
    go_wp2
    go_ret
    exact ⟨rfl, rfl⟩
  · have hb := neg64 n (by omega) h1
    have ht := (tz_spec 64 n.toNat (by omega) (by omega)).1
    have ho := tab64_ok ⟨tzN 64 n.toNat, ht⟩
    have hi : (IntKind.u64.wrap (bits .and .u64 n (IntKind.u64.wrap (-n)) * 285870213051353865) / 288230376151711744).toNat = (2 ^ tzN 64 n.toNat * 285870213051353865) % 18446744073709551616 / 288230376151711744 := by
      rw [hb, ← wrapF_eq, wrap_u64]
      show ((((2 ^ tzN 64 n.toNat : Nat) : Int) * ((285870213051353865 : Nat) : Int)) % ((18446744073709551616 : Nat) : Int) / ((288230376151711744 : Nat) : Int)).toNat = _
      rw [← Int.natCast_mul, ← Int.natCast_emod, ← Int.natCast_ediv, Int.toNat_natCast]
    have hc : w.cell? ⟨1, (IntKind.u64.wrap (bits .and .u64 n (IntKind.u64.wrap (-n)) * 285870213051353865) / 288230376151711744).toNat, none⟩ = some (.int .u8 (tzN 64 n.toNat : Nat)) := by
      rw [hi, hcell _ ho.2]
      exact congrArg (fun x : Nat => some (Value.int .u8 x)) ho.1
    have hd : (n == 0) = false := by simp [hn]
    have hr : 0 ≤ IntKind.u64.wrap (bits .and .u64 n (IntKind.u64.wrap (-n)) * 285870213051353865) / 288230376151711744 ∧ IntKind.u64.wrap (bits .and .u64 n (IntKind.u64.wrap (-n)) * 285870213051353865) / 288230376151711744 < 64 := by
      have h2 := ho.2
      rw [← wrapF_eq, wrap_u64] at hi ⊢
      generalize bits .and .u64 n (wrapF .u64 (-n)) * 285870213051353865 = z at hi ⊢
      omega
    clear hb hi ho hcell
    go_enter Tryz.func105, Tryz.ntmps105
    go_wp2
    all_goals go_ret
    all_goals exact ⟨rfl, rfl⟩
def tab32 : List Nat := [0, 1, 28, 2, 29, 14, 24, 3, 30, 22, 20, 15, 25, 17, 4, 8, 31, 27, 13, 23, 21, 19, 16, 7, 26, 12, 18, 6, 11, 5, 10, 9]
theorem tab32_ok : ∀ k : Fin 32, tab32.getD ((2 ^ k.val * 125613361) % 4294967296 / 134217728) 0 = k.val ∧ (2 ^ k.val * 125613361) % 4294967296 / 134217728 < 32 := by decide +kernel
theorem neg32 (n : Int) (h0 : 0 < n) (h1 : n ≤ 4294967295) : bits .and .u32 n (IntKind.u32.wrap (-n)) = ((2 ^ tzN 32 n.toNat : Nat) : Int) := by
  obtain ⟨k, rfl⟩ : ∃ k : Nat, n = k := ⟨n.toNat, by omega⟩
  have e : IntKind.u32.wrap (-(k : Int)) = ((4294967296 - k : Nat) : Int) := by
    rw [← wrapF_eq, wrap_u32]; omega
  rw [e]
  have h := land_neg 32 k (by omega) (by omega)
  rw [u32_and_nat k _ (by omega) (by omega)]
  exact congrArg _ h
set_option maxHeartbeats 4000000 in
set_option maxRecDepth 100000 in
theorem tz32 (n : Int) (h0 : 0 ≤ n) (h1 : n ≤ 4294967295) (w : World) (hcell : ∀ i, i < 32 → w.cell? ⟨0, i, none⟩ = some (.int .u8 (tab32.getD i 0))) :
    Calls Tryz.prog 102 #[.int .u32 n] w fun e w' => e = .returned (.int .i64 (tzN 32 n.toNat : Nat)) ∧ w' = w := by
  by_cases hn : n = 0
  · subst hn
    go_enter Tryz.func102, Tryz.ntmps102
    go_wp2
    go_ret
    exact ⟨rfl, rfl⟩
  · have hb := neg32 n (by omega) h1
    have ht := (tz_spec 32 n.toNat (by omega) (by omega)).1
    have ho := tab32_ok ⟨tzN 32 n.toNat, ht⟩
    have hi : (IntKind.u32.wrap (bits .and .u32 n (IntKind.u32.wrap (-n)) * 125613361) / 134217728).toNat = (2 ^ tzN 32 n.toNat * 125613361) % 4294967296 / 134217728 := by
      rw [hb, ← wrapF_eq, wrap_u32]
      show ((((2 ^ tzN 32 n.toNat : Nat) : Int) * ((125613361 : Nat) : Int)) % ((4294967296 : Nat) : Int) / ((134217728 : Nat) : Int)).toNat = _
      rw [← Int.natCast_mul, ← Int.natCast_emod, ← Int.natCast_ediv, Int.toNat_natCast]
    have hc : w.cell? ⟨0, (IntKind.u32.wrap (bits .and .u32 n (IntKind.u32.wrap (-n)) * 125613361) / 134217728).toNat, none⟩ = some (.int .u8 (tzN 32 n.toNat : Nat)) := by
      rw [hi, hcell _ ho.2]
      exact congrArg (fun x : Nat => some (Value.int .u8 x)) ho.1
    have hd : (n == 0) = false := by simp [hn]
    have hr : 0 ≤ IntKind.u32.wrap (bits .and .u32 n (IntKind.u32.wrap (-n)) * 125613361) / 134217728 ∧ IntKind.u32.wrap (bits .and .u32 n (IntKind.u32.wrap (-n)) * 125613361) / 134217728 < 32 := by
      have h2 := ho.2
      rw [← wrapF_eq, wrap_u32] at hi ⊢
      generalize bits .and .u32 n (wrapF .u32 (-n)) * 125613361 = z at hi ⊢
      omega
    have hw : ∀ x : Int, IntKind.u32.wrap x = x % 4294967296 := fun x => by rw [← wrapF_eq, wrap_u32]
    simp only [hw] at hc hr
    clear hb hi ho hcell hw
    go_enter Tryz.func102, Tryz.ntmps102
    go_wp2
    all_goals go_ret
    all_goals exact ⟨rfl, rfl⟩
end Go.Vm.Bits
namespace Go.Vm.Bits
open Go.RowKit Go.Proofs Go.Vm
def pop8 : ByteArray := ⟨#[0, 1, 1, 2, 1, 2, 2, 3, 1, 2, 2, 3, 2, 3, 3, 4, 1, 2, 2, 3, 2, 3, 3, 4, 2, 3, 3, 4, 3, 4, 4, 5, 1, 2, 2, 3, 2, 3, 3, 4, 2, 3, 3, 4, 3, 4, 4, 5, 2, 3, 3, 4, 3, 4, 4, 5, 3, 4, 4, 5, 4, 5, 5, 6, 1, 2, 2, 3, 2, 3, 3, 4, 2, 3, 3, 4, 3, 4, 4, 5, 2, 3, 3, 4, 3, 4, 4, 5, 3, 4, 4, 5, 4, 5, 5, 6, 2, 3, 3, 4, 3, 4, 4, 5, 3, 4, 4, 5, 4, 5, 5, 6, 3, 4, 4, 5, 4, 5, 5, 6, 4, 5, 5, 6, 5, 6, 6, 7, 1, 2, 2, 3, 2, 3, 3, 4, 2, 3, 3, 4, 3, 4, 4, 5, 2, 3, 3, 4, 3, 4, 4, 5, 3, 4, 4, 5, 4, 5, 5, 6, 2, 3, 3, 4, 3, 4, 4, 5, 3, 4, 4, 5, 4, 5, 5, 6, 3, 4, 4, 5, 4, 5, 5, 6, 4, 5, 5, 6, 5, 6, 6, 7, 2, 3, 3, 4, 3, 4, 4, 5, 3, 4, 4, 5, 4, 5, 5, 6, 3, 4, 4, 5, 4, 5, 5, 6, 4, 5, 5, 6, 5, 6, 6, 7, 3, 4, 4, 5, 4, 5, 5, 6, 4, 5, 5, 6, 5, 6, 6, 7, 4, 5, 5, 6, 5, 6, 6, 7, 5, 6, 6, 7, 6, 7, 7, 8]⟩
set_option maxRecDepth 100000 in
theorem popS : (⟨((List.append (List.append [0, 1, 1, 2, 1, 2, 2, 3, 1, 2, 2, 3, 2, 3, 3, 4, 1, 2, 2, 3, 2, 3, 3, 4, 2, 3, 3, 4, 3, 4, 4, 5, 1, 2, 2, 3, 2, 3, 3, 4, 2, 3, 3, 4, 3, 4, 4, 5, 2, 3, 3, 4, 3, 4, 4, 5, 3, 4, 4, 5, 4, 5, 5, 6] [1, 2, 2, 3, 2, 3, 3, 4, 2, 3, 3, 4, 3, 4, 4, 5, 2, 3, 3, 4, 3, 4, 4, 5, 3, 4, 4, 5, 4, 5, 5, 6, 2, 3, 3, 4, 3, 4, 4, 5, 3, 4, 4, 5, 4, 5, 5, 6, 3, 4, 4, 5, 4, 5, 5, 6, 4, 5, 5, 6, 5, 6, 6, 7]) (List.append [1, 2, 2, 3, 2, 3, 3, 4, 2, 3, 3, 4, 3, 4, 4, 5, 2, 3, 3, 4, 3, 4, 4, 5, 3, 4, 4, 5, 4, 5, 5, 6, 2, 3, 3, 4, 3, 4, 4, 5, 3, 4, 4, 5, 4, 5, 5, 6, 3, 4, 4, 5, 4, 5, 5, 6, 4, 5, 5, 6, 5, 6, 6, 7] [2, 3, 3, 4, 3, 4, 4, 5, 3, 4, 4, 5, 4, 5, 5, 6, 3, 4, 4, 5, 4, 5, 5, 6, 4, 5, 5, 6, 5, 6, 6, 7, 3, 4, 4, 5, 4, 5, 5, 6, 4, 5, 5, 6, 5, 6, 6, 7, 4, 5, 5, 6, 5, 6, 6, 7, 5, 6, 6, 7, 6, 7, 7, 8])) : List UInt8).toArray⟩ : ByteArray) = pop8 := by rfl
theorem below_drewN {B : Nat} (w : World) (n : Nat) : Below B w (w.drewN n) := ⟨rfl, rfl, rfl, Nat.le_refl _, fun _ _ => rfl⟩
theorem pop8_size : pop8.size = 256 := by decide +kernel
theorem and255 (x : Int) (h0 : 0 ≤ x) (h1 : x ≤ 4294967295) : bits .and .u32 x 255 = x % 256 := by
  obtain ⟨k, rfl⟩ : ∃ k : Nat, x = k := ⟨x.toNat, by omega⟩
  have h := u32_and_nat k 255 (by omega) (by omega)
  rw [show ((255 : Nat) : Int) = 255 from rfl] at h
  rw [h, show k &&& 255 = k % 256 from Nat.and_two_pow_sub_one_eq_mod k 8]
  omega
theorem popN_split : ∀ (a b n : Nat), popN (a + b) n = popN a (n % 2 ^ a) + popN b (n / 2 ^ a)
  | 0, b, n => by rw [Nat.zero_add, Nat.pow_zero, Nat.div_one]; show _ = 0 + _; omega
  | a + 1, b, n => by
    have e : a + 1 + b = (a + b) + 1 := by omega
    have h1 : popN (a + b + 1) n = popN (a + b) (n / 2) + n % 2 := rfl
    have h2 : popN (a + 1) (n % 2 ^ (a + 1)) = popN a (n % 2 ^ (a + 1) / 2) + n % 2 ^ (a + 1) % 2 := rfl
    have h3 : n % 2 ^ (a + 1) / 2 = n / 2 % 2 ^ a := by rw [Nat.pow_succ, Nat.mul_comm, Nat.mod_mul_right_div_self]
    have h4 : n % 2 ^ (a + 1) % 2 = n % 2 := Nat.mod_mod_of_dvd _ ⟨2 ^ a, by rw [Nat.pow_succ, Nat.mul_comm]⟩
    have h5 : n / 2 / 2 ^ a = n / 2 ^ (a + 1) := by rw [Nat.div_div_eq_div_mul, Nat.pow_succ, Nat.mul_comm]
    rw [e, h1, h2, h3, h4, popN_split a b (n / 2), h5]
    omega
theorem popN_le : ∀ (a n : Nat), popN a n ≤ a
  | 0, n => Nat.le_refl _
  | a + 1, n => by
    have h1 : popN (a + 1) n = popN a (n / 2) + n % 2 := rfl
    have := popN_le a (n / 2)
    omega
theorem pop8_get (i : Nat) (h : i < pop8.size) : (pop8[i]'h).toNat = popN 8 i := by
  have all : ∀ j : Fin 256, (pop8[j.val]'(by rw [pop8_size]; exact j.isLt)).toNat = popN 8 j.val := by decide +kernel
  exact all ⟨i, by rw [← pop8_size]; exact h⟩
theorem pop32_num (n : Nat) (h : n < 4294967296) : popN 32 n = popN 8 (n / 16777216) + popN 8 (n / 65536 % 256) + popN 8 (n / 256 % 256) + popN 8 (n % 256) := by
  rw [show (32 : Nat) = 8 + (8 + (8 + 8)) from rfl, popN_split 8, popN_split 8, popN_split 8]
  simp only [Nat.div_div_eq_div_mul, Nat.reducePow, Nat.reduceMul]
  omega
set_option maxHeartbeats 4000000 in
set_option maxRecDepth 100000 in
theorem pop32 (n : Int) (h0 : 0 ≤ n) (h1 : n ≤ 4294967295) (w : World) :
    Calls Tryz.prog 103 #[.int .u32 n] w fun e w' => e = .returned (.int .i64 (popN 32 n.toNat : Nat)) ∧ Below w.heap.size w w' := by
  have a0 := pop8_size
  have b2 := and255 (n / 65536) (by omega) (by omega)
  have b3 := and255 (n / 256) (by omega) (by omega)
  have b4 := and255 n (by omega) (by omega)
  have a1 : 0 ≤ n / 16777216 ∧ n / 16777216 < 256 := by omega
  have a2 : 0 ≤ n / 65536 % 256 ∧ n / 65536 % 256 < 256 := by omega
  have a3 : 0 ≤ n / 256 % 256 ∧ n / 256 % 256 < 256 := by omega
  have a4 : 0 ≤ n % 256 ∧ n % 256 < 256 := by omega
  go_enter Tryz.func103, Tryz.ntmps103
  go_wp2
  simp only [popS]
  go_quiet (fail)
  go_wp2
  go_ret
  refine ⟨?_, (Below.refl _ w).trans (below_drewN w nq)⟩
  refine congrArg Ending.returned ?_
  refine congrArg (Value.int .i64) (?_ : (_ : Int) % 256 = _)
  rw [pop8_get, pop8_get, pop8_get, pop8_get, pop32_num n.toNat (by omega)]
  have e1 : (n / 16777216).toNat = n.toNat / 16777216 := by omega
  have e2 : (n / 65536 % 256).toNat = n.toNat / 65536 % 256 := by omega
  have e3 : (n / 256 % 256).toNat = n.toNat / 256 % 256 := by omega
  have e4 : (n % 256).toNat = n.toNat % 256 := by omega
  rw [e1, e2, e3, e4]
  have l1 := popN_le 8 (n.toNat / 16777216)
  have l2 := popN_le 8 (n.toNat / 65536 % 256)
  have l3 := popN_le 8 (n.toNat / 256 % 256)
  have l4 := popN_le 8 (n.toNat % 256)
  omega
end Go.Vm.Bits
namespace Go.Vm.Bits
open Go.Vm
/-- The land of two numbers, byte by byte. -/
theorem land_byte (a b c d : Nat) (ha : a < 256) (hc : c < 256) : (a + 256 * b) &&& (c + 256 * d) = (a &&& c) + 256 * (b &&& d) := by
  have e1 : a + 256 * b = b <<< 8 ||| a := by
    rw [← Nat.shiftLeft_add_eq_or_of_lt (show a < 2 ^ 8 by omega), Nat.shiftLeft_eq]; omega
  have h : ((a + 256 * b) &&& (c + 256 * d)) % 2 ^ 8 = a &&& c := by
    rw [Nat.and_mod_two_pow, show (a + 256 * b) % 2 ^ 8 = a by omega, show (c + 256 * d) % 2 ^ 8 = c by omega]
  have h2 : ((a + 256 * b) &&& (c + 256 * d)) / 2 ^ 8 = b &&& d := by
    rw [Nat.and_div_two_pow, show (a + 256 * b) / 2 ^ 8 = b by omega, show (c + 256 * d) / 2 ^ 8 = d by omega]
  omega
def mask (c : Nat) : Nat → Nat
  | 0 => 0
  | k + 1 => c + 256 * mask c k
def mapB (f : Nat → Nat) : Nat → Nat → Nat
  | 0, _ => 0
  | k + 1, n => f (n % 256) + 256 * mapB f k (n / 256)
theorem lift (c d : Nat) (hd : d ∣ 256) (hd0 : 0 < d) (hc : c < 256) (h : ∀ x : Fin 256, ∀ y : Fin 256, (x.val / d + 256 / d * (y.val % d)) &&& c = x.val / d &&& c) : ∀ (k n : Nat), (n / d &&& mask c k) + (n &&& mask c k) = mapB (fun b => (b / d &&& c) + (b &&& c)) k n
  | 0, n => by show (n / d &&& 0) + (n &&& 0) = 0; simp
  | k + 1, n => by
    obtain ⟨q, hq⟩ := hd
    have hq2 : 256 / d = q := by rw [hq, Nat.mul_div_cancel_left _ hd0]
    have e : n / d = (n % 256 / d + q * (n / 256 % d)) + 256 * (n / 256 / d) := by
      have h1 : n = n % 256 + 256 * (n / 256) := by omega
      have h2 : n / 256 = n / 256 % d + d * (n / 256 / d) := (Nat.mod_add_div _ _).symm
      have h3 : n = n % 256 + d * (q * (n / 256)) := by rw [← Nat.mul_assoc, ← hq]; exact h1
      have h4 : n / d = n % 256 / d + q * (n / 256) := by
        conv => lhs; rw [h3]
        rw [Nat.add_mul_div_left _ _ hd0]
      rw [h4]
      conv => lhs; rw [h2]
      rw [Nat.mul_add, ← Nat.mul_assoc, Nat.mul_comm q d, ← hq]
      omega
    have hx : n % 256 / d + q * (n / 256 % d) < 256 := by
      have h1 : n % 256 / d < q := by rw [Nat.div_lt_iff_lt_mul hd0, Nat.mul_comm, ← hq]; omega
      have h2 : n / 256 % d + 1 ≤ d := Nat.mod_lt _ hd0
      have h3 := Nat.mul_le_mul_left q h2
      rw [Nat.mul_add, Nat.mul_comm q d, ← hq] at h3
      omega
    have hh := h ⟨n % 256, by omega⟩ ⟨n / 256 % d, by have := Nat.mod_lt (n / 256) hd0; have := Nat.le_of_dvd (by decide) ⟨q, hq⟩; omega⟩
    rw [hq2] at hh
    simp only [Nat.mod_mod] at hh
    have e2 : n = n % 256 + 256 * (n / 256) := by omega
    show (n / d &&& (c + 256 * mask c k)) + (n &&& (c + 256 * mask c k)) = ((n % 256 / d &&& c) + (n % 256 &&& c)) + 256 * mapB _ k (n / 256)
    rw [e, land_byte _ _ _ _ hx hc, hh, ← lift c d ⟨q, hq⟩ hd0 hc h k (n / 256)]
    conv => lhs; rw [show n &&& (c + 256 * mask c k) = (n % 256 + 256 * (n / 256)) &&& (c + 256 * mask c k) by rw [← e2]]
    rw [land_byte _ _ _ _ (by omega) hc]
    omega
theorem mapB_lt {f : Nat → Nat} (hf : ∀ b, b < 256 → f b < 256) : ∀ k n, mapB f k n < 256 ^ k
  | 0, n => by show 0 < 1; omega
  | k + 1, n => by
    have h1 := hf (n % 256) (by omega)
    have h2 := mapB_lt hf k (n / 256)
    show f (n % 256) + 256 * mapB f k (n / 256) < 256 ^ (k + 1)
    rw [Nat.pow_succ]
    omega
theorem mapB_mapB {f g : Nat → Nat} (hg : ∀ b, b < 256 → g b < 256) : ∀ k n, mapB f k (mapB g k n) = mapB (fun b => f (g b)) k n
  | 0, n => rfl
  | k + 1, n => by
    have h1 := hg (n % 256) (by omega)
    show f ((g (n % 256) + 256 * mapB g k (n / 256)) % 256) + 256 * mapB f k ((g (n % 256) + 256 * mapB g k (n / 256)) / 256) = f (g (n % 256)) + 256 * mapB (fun b => f (g b)) k (n / 256)
    rw [show (g (n % 256) + 256 * mapB g k (n / 256)) % 256 = g (n % 256) by omega, show (g (n % 256) + 256 * mapB g k (n / 256)) / 256 = mapB g k (n / 256) by omega, mapB_mapB hg k]
/-- The third step: nibbles of at most 4. -/
theorem third {g : Nat → Nat} (hg : ∀ b, b < 256 → g b / 16 ≤ 4 ∧ g b % 16 ≤ 4) : ∀ k n, (mapB g k n / 16 + mapB g k n) &&& mask 15 k = mapB (fun b => g b / 16 + g b % 16) k n
  | 0, n => by show _ &&& 0 = 0; simp
  | k + 1, n => by
    have h1 := hg (n % 256) (by omega)
    have hh := third hg k (n / 256)
    generalize hz : mapB g k (n / 256) = z at hh
    have hz16 : z % 16 ≤ 4 := by
      cases k with
      | zero => rw [← hz]; show 0 % 16 ≤ 4; omega
      | succ k =>
        rw [← hz]
        show (g (n / 256 % 256) + 256 * mapB g k (n / 256 / 256)) % 16 ≤ 4
        have := (hg (n / 256 % 256) (by omega)).2
        omega
    show ((g (n % 256) + 256 * mapB g k (n / 256)) / 16 + (g (n % 256) + 256 * mapB g k (n / 256))) &&& (15 + 256 * mask 15 k) = (g (n % 256) / 16 + g (n % 256) % 16) + 256 * mapB (fun b => g b / 16 + g b % 16) k (n / 256)
    rw [hz]
    generalize g (n % 256) = b at h1
    have e : (b + 256 * z) / 16 + (b + 256 * z) = (b / 16 + b + 16 * (z % 16)) + 256 * (z / 16 + z) := by omega
    rw [e, land_byte _ _ _ _ (by omega) (by decide), hh, show b / 16 + b + 16 * (z % 16) &&& 15 = (b / 16 + b + 16 * (z % 16)) % 16 from Nat.and_two_pow_sub_one_eq_mod _ 4]
    omega
theorem mapB_congr {f g : Nat → Nat} (h : ∀ b, b < 256 → f b = g b) : ∀ k n, mapB f k n = mapB g k n
  | 0, n => rfl
  | k + 1, n => by
    show f (n % 256) + 256 * mapB f k (n / 256) = g (n % 256) + 256 * mapB g k (n / 256)
    rw [h _ (by omega), mapB_congr h k]
def f1 (b : Nat) : Nat := (b / 2 &&& 85) + (b &&& 85)
def f2 (b : Nat) : Nat := (b / 4 &&& 51) + (b &&& 51)
theorem byte_ok : ∀ b : Fin 256, f1 b.val < 256 ∧ f2 (f1 b.val) < 256 ∧ f2 (f1 b.val) / 16 ≤ 4 ∧ f2 (f1 b.val) % 16 ≤ 4 ∧ f2 (f1 b.val) / 16 + f2 (f1 b.val) % 16 = popN 8 b.val := by decide +kernel
theorem lift85 : ∀ (k n : Nat), (n / 2 &&& mask 85 k) + (n &&& mask 85 k) = mapB f1 k n := lift 85 2 (by decide) (by decide) (by decide) (by decide +kernel)
theorem lift51 : ∀ (k n : Nat), (n / 4 &&& mask 51 k) + (n &&& mask 51 k) = mapB f2 k n := lift 51 4 (by decide) (by decide) (by decide) (by decide +kernel)
/-- The three steps come to the ones of each byte. -/
theorem three (k n : Nat) : mapB (popN 8) k n = ((((mapB f1 k n) / 4 &&& mask 51 k) + (mapB f1 k n &&& mask 51 k)) / 16 + (((mapB f1 k n) / 4 &&& mask 51 k) + (mapB f1 k n &&& mask 51 k))) &&& mask 15 k := by
  have h := fun b (hb : b < 256) => byte_ok ⟨b, hb⟩
  rw [lift51, mapB_mapB (fun b hb => (h b hb).1), third (g := fun b => f2 (f1 b)) (fun b hb => ⟨(h b hb).2.2.1, (h b hb).2.2.2.1⟩)]
  exact mapB_congr (fun b hb => (h b hb).2.2.2.2.symm) k n
end Go.Vm.Bits
namespace Go.Vm.Bits
open Go.RowKit Go.Proofs Go.Vm
theorem mapB_le {f : Nat → Nat} {c : Nat} (hf : ∀ b, b < 256 → f b ≤ c) : ∀ k n, mapB f k n ≤ mask c k
  | 0, n => Nat.le_refl 0
  | k + 1, n => by
    have h1 := hf (n % 256) (by omega)
    have h2 := mapB_le hf k (n / 256)
    show f (n % 256) + 256 * mapB f k (n / 256) ≤ c + 256 * mask c k
    omega
theorem le68 (q : Nat) (a1 : q / 16 ≤ 4) (a2 : q % 16 ≤ 4) : q ≤ 68 := by omega
theorem wrapN (a : Nat) (h : a < 18446744073709551616) : IntKind.u64.wrap ((a : Nat) : Int) = (a : Int) := by
  rw [← wrapF_eq, wrap_u64]; omega
theorem m85 : mask 85 8 = 6148914691236517205 := by decide
theorem m51 : mask 51 8 = 3689348814741910323 := by decide
theorem m15 : mask 15 8 = 1085102592571150095 := by decide
theorem sb1 (c0 R1 x : Nat) (h : c0 ≤ 8) (hx : x = c0 + 256 * R1) : x / 256 = R1 := by omega
theorem sb2 (c0 c1 c2 R2 R3 y : Nat) (h0 : c0 ≤ 8) (h1 : c1 ≤ 8) (h2 : c2 ≤ 8) (hy : y = (c0 + c1) + 256 * (c1 + c2) + 65536 * (R2 + R3)) : y / 65536 = R2 + R3 := by
  generalize R2 + R3 = S at *
  omega
theorem sb3 (a b c d Q z : Nat) (h0 : a ≤ 64) (h1 : b ≤ 64) (h2 : c ≤ 64) (h3 : d ≤ 64) (hz : z = a + 256 * b + 65536 * c + 16777216 * d + 4294967296 * Q) : z / 4294967296 = Q := by omega
theorem sum_bytes (c0 c1 c2 c3 c4 c5 c6 c7 : Nat) (h0 : c0 ≤ 8) (h1 : c1 ≤ 8) (h2 : c2 ≤ 8) (h3 : c3 ≤ 8) (h4 : c4 ≤ 8) (h5 : c5 ≤ 8) (h6 : c6 ≤ 8) (h7 : c7 ≤ 8) (x y z t : Nat)
    (hx : x = c0 + 256 * (c1 + 256 * (c2 + 256 * (c3 + 256 * (c4 + 256 * (c5 + 256 * (c6 + 256 * c7))))))) (hy : y = x + x / 256) (hz : z = y + y / 65536) (ht : t = z + z / 4294967296) :
    t % 128 = c0 + c1 + c2 + c3 + c4 + c5 + c6 + c7 ∧ x < 18446744073709551616 ∧ y < 18446744073709551616 ∧ z < 18446744073709551616 ∧ t < 9223372036854775808 := by
  have q1 := sb1 c0 (c1 + 256 * (c2 + 256 * (c3 + 256 * (c4 + 256 * (c5 + 256 * (c6 + 256 * c7)))))) x h0 hx
  rw [q1] at hy
  have q2 := sb2 c0 c1 c2 (c2 + 256 * (c3 + 256 * (c4 + 256 * (c5 + 256 * (c6 + 256 * c7))))) (c3 + 256 * (c4 + 256 * (c5 + 256 * (c6 + 256 * c7)))) y h0 h1 h2 (by rw [hy, hx]; clear hy hx q1 hz ht; omega)
  rw [q2] at hz
  have q3 := sb3 (c0 + c1 + c2 + c3) (c1 + c2 + c3 + c4) (c2 + c3 + c4 + c5) (c3 + c4 + c5 + c6) ((c4 + c5 + c6 + c7) + 256 * (c5 + c6 + c7) + 65536 * (c6 + c7) + 16777216 * c7) z (by omega) (by omega) (by omega) (by omega) (by rw [hz, hy, hx]; clear hz hy hx q1 q2 ht; omega)
  rw [q3] at ht
  clear q1 q2 q3
  subst hx hy hz ht
  refine ⟨?_, ?_, ?_, ?_, ?_⟩
  · have ht : c0 + 256 * (c1 + 256 * (c2 + 256 * (c3 + 256 * (c4 + 256 * (c5 + 256 * (c6 + 256 * c7)))))) + (c1 + 256 * (c2 + 256 * (c3 + 256 * (c4 + 256 * (c5 + 256 * (c6 + 256 * c7)))))) + (c2 + 256 * (c3 + 256 * (c4 + 256 * (c5 + 256 * (c6 + 256 * c7)))) + (c3 + 256 * (c4 + 256 * (c5 + 256 * (c6 + 256 * c7))))) + (c4 + c5 + c6 + c7 + 256 * (c5 + c6 + c7) + 65536 * (c6 + c7) + 16777216 * c7) = (c0 + c1 + c2 + c3 + c4 + c5 + c6 + c7) + 128 * (2 * ((c1 + 256 * (c2 + 256 * (c3 + 256 * (c4 + 256 * (c5 + 256 * (c6 + 256 * c7)))))) + (c2 + 256 * (c3 + 256 * (c4 + 256 * (c5 + 256 * (c6 + 256 * c7))))) + (c3 + 256 * (c4 + 256 * (c5 + 256 * (c6 + 256 * c7)))) + (c4 + 256 * (c5 + 256 * (c6 + 256 * c7))) + (c5 + c6 + c7) + 256 * (c6 + c7) + 65536 * c7)) := by clear h0 h1 h2 h3 h4 h5 h6 h7; omega
    exact (congrArg (· % 128) ht).trans ((Nat.add_mul_mod_self_left _ _ _).trans (Nat.mod_eq_of_lt (by omega)))
  all_goals omega
theorem pop_bytes (n : Nat) (h : n < 18446744073709551616) : popN 64 n = popN 8 (n % 256) + popN 8 (n / 256 % 256) + popN 8 (n / 65536 % 256) + popN 8 (n / 16777216 % 256) + popN 8 (n / 4294967296 % 256) + popN 8 (n / 1099511627776 % 256) + popN 8 (n / 281474976710656 % 256) + popN 8 (n / 72057594037927936 % 256) := by
  have e : n / 72057594037927936 % 256 = n / 72057594037927936 := by omega
  rw [show (64 : Nat) = 8 + (8 + (8 + (8 + (8 + (8 + (8 + 8)))))) from rfl]
  rw [e]
  simp only [popN_split 8, Nat.div_div_eq_div_mul, Nat.reducePow, Nat.reduceMul, Nat.add_assoc]
theorem and127 (x : Nat) (h : x < 9223372036854775808) : bits .and .i64 (wrap64 (x : Int)) 127 = ((x % 128 : Nat) : Int) := by
  rw [wrap64_small (x : Int) (by omega) (by omega)]
  have e : bits .and .i64 (x : Int) 127 = andF .i64 (x : Int) ((127 : Nat) : Int) := by
    rw [andF_eq]; rfl
  rw [e, and_i64 _ 7 (by decide)]
  omega
set_option maxHeartbeats 4000000 in
set_option maxRecDepth 100000 in
theorem pop64 (n : Int) (h0 : 0 ≤ n) (h1 : n ≤ 18446744073709551615) (w : World) :
    Calls Tryz.prog 106 #[.int .u64 n] w fun e w' => e = .returned (.int .i64 (popN 64 n.toNat : Nat)) ∧ w' = w := by
  go_enter Tryz.func106, Tryz.ntmps106
  go_wp2
  go_ret
  refine ⟨?_, rfl⟩
  refine congrArg Ending.returned ?_
  refine congrArg (Value.int .i64) ?_
  obtain ⟨k, rfl⟩ : ∃ k : Nat, n = k := ⟨n.toNat, by omega⟩
  have hb := fun b (hb : b < 256) => byte_ok ⟨b, hb⟩
  have hA : mapB f1 8 k < 18446744073709551616 := mapB_lt (fun b h => (hb b h).1) 8 k
  have e1 : bits .and .u64 ((k : Int) / 2) 6148914691236517205 + bits .and .u64 (k : Int) 6148914691236517205 = ((mapB f1 8 k : Nat) : Int) := by
    rw [← lift85, m85]
    have q := u64_and_nat (k / 2) 6148914691236517205 (by omega) (by omega)
    have q2 := u64_and_nat k 6148914691236517205 (by omega) (by omega)
    rw [show ((k : Int) / 2) = ((k / 2 : Nat) : Int) from rfl, show (6148914691236517205 : Int) = ((6148914691236517205 : Nat) : Int) from rfl, q, q2]
    exact (Int.natCast_add _ _).symm
  simp only [e1, wrapN _ hA]
  have e2 : bits .and .u64 ((mapB f1 8 k : Nat) / 4 : Int) 3689348814741910323 + bits .and .u64 ((mapB f1 8 k : Nat) : Int) 3689348814741910323 = ((mapB f2 8 (mapB f1 8 k) : Nat) : Int) := by
    rw [← lift51, m51]
    have q := u64_and_nat (mapB f1 8 k / 4) 3689348814741910323 (by omega) (by omega)
    have q2 := u64_and_nat (mapB f1 8 k) 3689348814741910323 (by omega) (by omega)
    rw [show ((mapB f1 8 k : Nat) / 4 : Int) = ((mapB f1 8 k / 4 : Nat) : Int) from rfl, show (3689348814741910323 : Int) = ((3689348814741910323 : Nat) : Int) from rfl, q, q2]
    exact (Int.natCast_add _ _).symm
  have hB : mapB f2 8 (mapB f1 8 k) ≤ 4919131752989213764 := by
    rw [mapB_mapB (fun b h => (hb b h).1)]
    have := mapB_le (c := 68) (f := fun b => f2 (f1 b)) (fun b h => le68 _ (hb b h).2.2.1 (hb b h).2.2.2.1) 8 k
    rw [show mask 68 8 = 4919131752989213764 by decide] at this
    exact this
  simp only [e2, wrapN _ (Nat.lt_of_le_of_lt hB (by decide))]
  have e3 : bits .and .u64 (IntKind.u64.wrap ((mapB f2 8 (mapB f1 8 k) : Nat) / 16 + (mapB f2 8 (mapB f1 8 k) : Nat) : Int)) 1085102592571150095 = ((mapB (popN 8) 8 k : Nat) : Int) := by
    have h3 := three 8 k
    rw [lift51, m15] at h3
    rw [h3]
    generalize mapB f2 8 (mapB f1 8 k) = B at hB
    rw [show ((B : Nat) / 16 + (B : Nat) : Int) = ((B / 16 + B : Nat) : Int) by omega, wrapN _ (by omega)]
    exact u64_and_nat (B / 16 + B) 1085102592571150095 (by omega) (by omega)
  simp only [e3]
  clear e1 e2 e3 hA hB
  have hp : mapB (popN 8) 8 k = popN 8 (k % 256) + 256 * (popN 8 (k / 256 % 256) + 256 * (popN 8 (k / 65536 % 256) + 256 * (popN 8 (k / 16777216 % 256) + 256 * (popN 8 (k / 4294967296 % 256) + 256 * (popN 8 (k / 1099511627776 % 256) + 256 * (popN 8 (k / 281474976710656 % 256) + 256 * popN 8 (k / 72057594037927936 % 256))))))) := by
    simp only [mapB, Nat.div_div_eq_div_mul, Nat.reduceMul]
    omega
  have hs := sum_bytes _ _ _ _ _ _ _ _ (popN_le 8 (k % 256)) (popN_le 8 (k / 256 % 256)) (popN_le 8 (k / 65536 % 256)) (popN_le 8 (k / 16777216 % 256)) (popN_le 8 (k / 4294967296 % 256)) (popN_le 8 (k / 1099511627776 % 256)) (popN_le 8 (k / 281474976710656 % 256)) (popN_le 8 (k / 72057594037927936 % 256)) _ _ _ _ hp rfl rfl rfl
  have hkk : (k : Int).toNat = k := Int.toNat_natCast k
  rw [hkk, pop_bytes k (by omega), ← hs.1]
  generalize mapB (popN 8) 8 k = x at hs
  obtain ⟨_, g1, g2, g3, g4⟩ := hs
  rw [show ((x : Nat) : Int) + (x : Nat) / 256 = ((x + x / 256 : Nat) : Int) by omega, wrapN _ g2]
  generalize x + x / 256 = y at g2 g3 g4
  rw [show ((y : Nat) : Int) + (y : Nat) / 65536 = ((y + y / 65536 : Nat) : Int) by omega, wrapN _ g3]
  generalize y + y / 65536 = z at g3 g4
  rw [show ((z : Nat) : Int) + (z : Nat) / 4294967296 = ((z + z / 4294967296 : Nat) : Int) by omega, wrapN _ (by omega), and127 _ g4]
end Go.Vm.Bits
namespace Go.Vm.Bits
open Go.RowKit Go.Proofs Go.Vm
theorem popN_succ (w n : Nat) : popN (w + 1) n = popN w (n / 2) + n % 2 := rfl
theorem popN_zero : ∀ w, popN w 0 = 0
  | 0 => rfl
  | w + 1 => by rw [popN_succ, popN_zero w]
theorem popN_up : ∀ (a n : Nat), n < 2 ^ a → popN (a + 1) n = popN a n
  | 0, n, h => by
    have : n = 0 := by simpa using h
    subst this; rfl
  | a + 1, n, h => by
    rw [popN_succ (a + 1) n, popN_up a (n / 2) (by rw [Nat.pow_succ] at h; omega)]
    rfl
theorem pop_half (n : Nat) (h : n < 18446744073709551616) : popN 64 n = popN 64 (n / 2) + n % 2 := by
  rw [popN_up 63 (n / 2) (by omega)]; rfl
end Go.Vm.Bits
namespace Go.Vm.Bits
open Go.RowKit Go.Proofs Go.Vm
theorem wrap_u64k (x : Int) : IntKind.u64.wrap x = x % 18446744073709551616 := by rw [← wrapF_eq, wrap_u64]
theorem cut32_any (n : Int) (h0 : 0 ≤ n) (h1 : n ≤ 18446744073709551615) (w : World) :
    Calls Tryz.prog 15 #[.int .u64 n, .int .i64 32] w fun e w' => e = .returned (.int .u64 (n % 4294967296)) ∧ w' = w := by
  go_enter Tryz.func15, Tryz.ntmps15
  go_wp2
  go_ret
  refine ⟨?_, rfl⟩
  refine congrArg Ending.returned ?_
  refine congrArg (Value.int .u64) ?_
  rw [wrap_u64k]; omega
set_option maxRecDepth 100000 in
theorem is_1 (op : Int) (hop : op = 103 ∨ op = 104 ∨ op = 105 ∨ op = 121 ∨ op = 122 ∨ op = 123) (w : World) :
    Calls Tryz.prog 6 #[.int .i64 op] w fun e w' => e = .returned (.int .i64 1) ∧ w' = w := by
  rcases hop with rfl | rfl | rfl | rfl | rfl | rfl
  all_goals
    go_enter Tryz.func6, Tryz.ntmps6
    go_wp2
    go_ret
    exact ⟨rfl, rfl⟩
theorem bit1 (y : Int) (h0 : 0 ≤ y) (h1 : y ≤ 18446744073709551615) (k : Nat) : bits .and .u64 (y / 2 ^ k) 1 = ((y.toNat / 2 ^ k % 2 : Nat) : Int) := by
  obtain ⟨m, rfl⟩ : ∃ m : Nat, y = m := ⟨y.toNat, by omega⟩
  have hd : m / 2 ^ k ≤ m := Nat.div_le_self _ _
  have e : ((m : Int) / 2 ^ k) = ((m / 2 ^ k : Nat) : Int) := by simp [Int.natCast_pow]
  rw [e, show (1 : Int) = ((1 : Nat) : Int) from rfl, u64_and_nat _ _ (by omega) (by omega), Nat.and_one_is_mod]
  rfl
theorem lz_step (W : Nat) (y : Nat) (k : Nat) (hk : k < W) (h : y < 2 ^ (W - k)) (hb : y / 2 ^ (W - 1 - k) % 2 = 0) : y < 2 ^ (W - (k + 1)) := by
  have e : W - k = (W - 1 - k) + 1 := by omega
  rw [e, Nat.pow_succ] at h
  rw [show W - (k + 1) = W - 1 - k by omega]
  have h2 : y / 2 ^ (W - 1 - k) < 2 := by rw [Nat.div_lt_iff_lt_mul (Nat.two_pow_pos _), Nat.mul_comm]; exact h
  have h3 : y / 2 ^ (W - 1 - k) = 0 := by
    generalize y / 2 ^ (W - 1 - k) = q at h2 hb
    omega
  rcases Nat.div_eq_zero_iff.1 h3 with h4 | h4
  · have := Nat.two_pow_pos (W - 1 - k); omega
  · exact h4
theorem lz_end (W : Nat) (y : Nat) (k : Nat) (hk : k < W) (h : y < 2 ^ (W - k)) (hb : y / 2 ^ (W - 1 - k) % 2 ≠ 0) : lzN W y = k := by
  have h0 : y / 2 ^ (W - 1 - k) ≠ 0 := by
    generalize y / 2 ^ (W - 1 - k) = q at hb
    omega
  have h1 : 2 ^ (W - 1 - k) ≤ y := by
    rcases Nat.lt_or_ge y (2 ^ (W - 1 - k)) with h2 | h2
    · exact absurd (Nat.div_eq_of_lt h2) h0
    · exact h2
  have hy : y ≠ 0 := by intro e; subst e; simp at h0
  have l1 := (Nat.le_log2 hy).2 h1
  have l2 := (Nat.log2_lt hy).2 h
  cases y with
  | zero => exact absurd rfl hy
  | succ m => show W - 1 - Nat.log2 (m + 1) = k; omega
theorem lz_zero (W : Nat) (y : Nat) (h : y < 2 ^ (W - W)) : lzN W y = W := by
  rw [Nat.sub_self, Nat.pow_zero] at h
  obtain rfl : y = 0 := by omega
  rfl
theorem tz_step (y k : Nat) (h : y % 2 ^ k = 0) (hb : y / 2 ^ k % 2 = 0) : y % 2 ^ (k + 1) = 0 := by
  rw [Nat.pow_succ, Nat.mod_mul, h, hb]; rfl
theorem tz_end : ∀ (W y k : Nat), k < W → y % 2 ^ k = 0 → y / 2 ^ k % 2 ≠ 0 → tzN W y = k
  | 0, y, k, h, _, _ => by omega
  | W + 1, y, 0, h, h1, h2 => by
    have hd : tzN (W + 1) y = match y % 2 with | 0 => tzN W (y / 2) + 1 | _ => 0 := rfl
    rw [Nat.pow_zero, Nat.div_one] at h2
    have : y % 2 = 1 := by omega
    rw [hd, this]
    rfl
  | W + 1, y, k + 1, h, h1, h2 => by
    have hd : tzN (W + 1) y = match y % 2 with | 0 => tzN W (y / 2) + 1 | _ => 0 := rfl
    have e : 2 ^ (k + 1) = 2 * 2 ^ k := by rw [Nat.pow_succ, Nat.mul_comm]
    rw [e, Nat.mod_mul] at h1
    have hm : y % 2 = 0 := by omega
    have h3 : y / 2 % 2 ^ k = 0 := by
      rcases Nat.eq_zero_or_pos (y / 2 % 2 ^ k) with h | h
      · exact h
      · omega
    rw [e, ← Nat.div_div_eq_div_mul] at h2
    rw [hd, hm]
    show tzN W (y / 2) + 1 = k + 1
    rw [tz_end W (y / 2) k (by omega) h3 h2]
theorem tz_zero (W : Nat) : tzN W 0 = W := by
  induction W with
  | zero => rfl
  | succ W ih => exact congrArg (· + 1) ih
theorem tz_all (W y : Nat) (hy : y < 2 ^ W) (h : y % 2 ^ W = 0) : tzN W y = W := by
  rw [Nat.mod_eq_of_lt hy] at h
  rw [h, tz_zero]
theorem popN_snoc : ∀ (k n : Nat), popN (k + 1) n = popN k n + n / 2 ^ k % 2
  | 0, n => by rw [Nat.pow_zero, Nat.div_one]; show 0 + n % 2 = 0 + _; rfl
  | k + 1, n => by
    rw [popN_succ (k + 1) n, popN_snoc k (n / 2), popN_succ k n, Nat.div_div_eq_div_mul, Nat.pow_succ, Nat.mul_comm 2]
    omega
set_option maxRecDepth 100000 in
set_option maxHeartbeats 1000000 in
theorem ref_lz32 (n : Int) (h0 : 0 ≤ n) (h1 : n ≤ 18446744073709551615) (w : World) :
    Calls Tryz.prog 8 #[.int .i64 103, .int .u64 n] w fun e w' => e = .returned (.tuple #[.int .u64 (lzN 32 (n % 4294967296).toNat : Nat), .bool true]) ∧ w' = w := by
  have b0 : 0 ≤ n % 4294967296 := by omega
  have b1 : n % 4294967296 < 4294967296 := by omega
  have hy := bit1 (n % 4294967296) b0 (by omega)
  have HY := Lib.hid hy
  clear hy
  go_enter Tryz.func8, Tryz.ntmps8
  go_wp2_with (first | (go_at_call 6; refine (is_1 _ (by simp) _).mono ?_; rintro e w' ⟨rfl, rfl⟩) | (go_at_call 15; refine (cut32_any _ h0 h1 _).mono ?_; rintro e w' ⟨rfl, rfl⟩))
  go_loop [7] (fun c => ∃ k : Nat, k ≤ 32 ∧ c = .int .i64 k ∧ (n % 4294967296).toNat < 2 ^ (32 - k)) (fun c => 32 - (intOf c).toNat)
  case atStart => exact ⟨0, by omega, rfl, by simp only [Nat.reduceSub, Nat.reducePow]; omega⟩
  case round =>
    obtain ⟨k, hk, rfl, hlt⟩ := hrel
    have HL := Lib.hid hlt
    clear hlt
    by_cases hz : k < 32
    · by_cases hbit : (n % 4294967296).toNat / 2 ^ (31 - k) % 2 = 0
      · have hbb : (bits .and .u64 (n % 4294967296 / 2 ^ (31 - k)) 1 == 0) = true := by rw [HY.out, hbit]; rfl
        have HB := Lib.hid hbit
        clear hbit
        go_wp2
        go_round
        case rel => exact ⟨k + 1, by omega, by go_num, lz_step 32 _ k hz HL.out HB.out⟩
        case measure => simp [intOf]; omega
      · have hbb : (bits .and .u64 (n % 4294967296 / 2 ^ (31 - k)) 1 == 0) = false := by rw [HY.out, beq_eq_false_iff_ne]; omega
        have HB := Lib.hid hbit
        clear hbit
        go_wp2
        go_ret2
        exact ⟨by rw [lz_end 32 _ k hz HL.out HB.out]; rfl, rfl⟩
    · obtain rfl : k = 32 := by omega
      go_wp2
      go_ret2
      exact ⟨by rw [lz_zero 32 _ HL.out]; rfl, rfl⟩
set_option maxRecDepth 100000 in
set_option maxHeartbeats 1000000 in
theorem ref_tz32 (n : Int) (h0 : 0 ≤ n) (h1 : n ≤ 18446744073709551615) (w : World) :
    Calls Tryz.prog 8 #[.int .i64 104, .int .u64 n] w fun e w' => e = .returned (.tuple #[.int .u64 (tzN 32 (n % 4294967296).toNat : Nat), .bool true]) ∧ w' = w := by
  have b0 : 0 ≤ n % 4294967296 := by omega
  have b1 : n % 4294967296 < 4294967296 := by omega
  have hy := bit1 (n % 4294967296) b0 (by omega)
  have HY := Lib.hid hy
  clear hy
  go_enter Tryz.func8, Tryz.ntmps8
  go_wp2_with (first | (go_at_call 6; refine (is_1 _ (by simp) _).mono ?_; rintro e w' ⟨rfl, rfl⟩) | (go_at_call 15; refine (cut32_any _ h0 h1 _).mono ?_; rintro e w' ⟨rfl, rfl⟩))
  go_loop [8] (fun c => ∃ k : Nat, k ≤ 32 ∧ c = .int .i64 k ∧ (n % 4294967296).toNat % 2 ^ k = 0) (fun c => 32 - (intOf c).toNat)
  case atStart => exact ⟨0, by omega, rfl, by rw [Nat.pow_zero]; exact Nat.mod_one _⟩
  case round =>
    obtain ⟨k, hk, rfl, hlt⟩ := hrel
    have HL := Lib.hid hlt
    clear hlt
    by_cases hz : k < 32
    · by_cases hbit : (n % 4294967296).toNat / 2 ^ k % 2 = 0
      · have hbb : (bits .and .u64 (n % 4294967296 / 2 ^ k) 1 == 0) = true := by rw [HY.out, hbit]; rfl
        have HB := Lib.hid hbit
        clear hbit
        go_wp2
        go_round
        case rel => exact ⟨k + 1, by omega, by go_num, tz_step _ k HL.out HB.out⟩
        case measure => simp [intOf]; omega
      · have hbb : (bits .and .u64 (n % 4294967296 / 2 ^ k) 1 == 0) = false := by rw [HY.out, beq_eq_false_iff_ne]; omega
        have HB := Lib.hid hbit
        clear hbit
        go_wp2
        go_ret2
        exact ⟨by rw [tz_end 32 _ k hz HL.out HB.out]; rfl, rfl⟩
    · obtain rfl : k = 32 := by omega
      go_wp2
      go_ret2
      exact ⟨by rw [tz_all 32 _ (by simp only [Nat.reducePow]; omega) HL.out]; rfl, rfl⟩
set_option maxRecDepth 100000 in
set_option maxHeartbeats 1000000 in
theorem ref_pop32 (n : Int) (h0 : 0 ≤ n) (h1 : n ≤ 18446744073709551615) (w : World) :
    Calls Tryz.prog 8 #[.int .i64 105, .int .u64 n] w fun e w' => e = .returned (.tuple #[.int .u64 (popN 32 (n % 4294967296).toNat : Nat), .bool true]) ∧ w' = w := by
  have b0 : 0 ≤ n % 4294967296 := by omega
  have b1 : n % 4294967296 < 4294967296 := by omega
  have hy := bit1 (n % 4294967296) b0 (by omega)
  have HY := Lib.hid hy
  clear hy
  go_enter Tryz.func8, Tryz.ntmps8
  go_wp2_with (first | (go_at_call 6; refine (is_1 _ (by simp) _).mono ?_; rintro e w' ⟨rfl, rfl⟩) | (go_at_call 15; refine (cut32_any _ h0 h1 _).mono ?_; rintro e w' ⟨rfl, rfl⟩))
  go_loop [9, 10] (fun a c => ∃ k : Nat, k ≤ 32 ∧ c = .int .i64 k ∧ a = .int .u64 (popN k (n % 4294967296).toNat : Nat)) (fun _ c => 32 - (intOf c).toNat)
  case atStart => exact ⟨0, by omega, rfl, rfl⟩
  case round =>
    obtain ⟨k, hk, rfl, rfl⟩ := hrel
    have hle := popN_le k (n % 4294967296).toNat
    by_cases hz : k < 32
    · go_wp2
      go_round
      case rel => exact ⟨k + 1, by omega, by go_num, by rw [popN_snoc, HY.out, wrap_u64k]; exact congrArg (Value.int .u64) (by omega)⟩
      case measure => simp [intOf]; omega
    · obtain rfl : k = 32 := by omega
      go_wp2
      go_ret2
      exact ⟨rfl, rfl⟩
set_option maxRecDepth 100000 in
set_option maxHeartbeats 1000000 in
theorem ref_lz64 (n : Int) (h0 : 0 ≤ n) (h1 : n ≤ 18446744073709551615) (w : World) :
    Calls Tryz.prog 8 #[.int .i64 121, .int .u64 n] w fun e w' => e = .returned (.tuple #[.int .u64 (lzN 64 (n).toNat : Nat), .bool true]) ∧ w' = w := by
  have b0 : 0 ≤ n := by omega
  have b1 : n < 18446744073709551616 := by omega
  have hy := bit1 (n) b0 (by omega)
  have HY := Lib.hid hy
  clear hy
  go_enter Tryz.func8, Tryz.ntmps8
  go_wp2_with (first | (go_at_call 6; refine (is_1 _ (by simp) _).mono ?_; rintro e w' ⟨rfl, rfl⟩))
  go_loop [7] (fun c => ∃ k : Nat, k ≤ 64 ∧ c = .int .i64 k ∧ (n).toNat < 2 ^ (64 - k)) (fun c => 64 - (intOf c).toNat)
  case atStart => exact ⟨0, by omega, rfl, by simp only [Nat.reduceSub, Nat.reducePow]; omega⟩
  case round =>
    obtain ⟨k, hk, rfl, hlt⟩ := hrel
    have HL := Lib.hid hlt
    clear hlt
    by_cases hz : k < 64
    · by_cases hbit : (n).toNat / 2 ^ (63 - k) % 2 = 0
      · have hbb : (bits .and .u64 (n / 2 ^ (63 - k)) 1 == 0) = true := by rw [HY.out, hbit]; rfl
        have HB := Lib.hid hbit
        clear hbit
        go_wp2
        go_round
        case rel => exact ⟨k + 1, by omega, by go_num, lz_step 64 _ k hz HL.out HB.out⟩
        case measure => simp [intOf]; omega
      · have hbb : (bits .and .u64 (n / 2 ^ (63 - k)) 1 == 0) = false := by rw [HY.out, beq_eq_false_iff_ne]; omega
        have HB := Lib.hid hbit
        clear hbit
        go_wp2
        go_ret2
        exact ⟨by rw [lz_end 64 _ k hz HL.out HB.out]; rfl, rfl⟩
    · obtain rfl : k = 64 := by omega
      go_wp2
      go_ret2
      exact ⟨by rw [lz_zero 64 _ HL.out]; rfl, rfl⟩
set_option maxRecDepth 100000 in
set_option maxHeartbeats 1000000 in
theorem ref_tz64 (n : Int) (h0 : 0 ≤ n) (h1 : n ≤ 18446744073709551615) (w : World) :
    Calls Tryz.prog 8 #[.int .i64 122, .int .u64 n] w fun e w' => e = .returned (.tuple #[.int .u64 (tzN 64 (n).toNat : Nat), .bool true]) ∧ w' = w := by
  have b0 : 0 ≤ n := by omega
  have b1 : n < 18446744073709551616 := by omega
  have hy := bit1 (n) b0 (by omega)
  have HY := Lib.hid hy
  clear hy
  go_enter Tryz.func8, Tryz.ntmps8
  go_wp2_with (first | (go_at_call 6; refine (is_1 _ (by simp) _).mono ?_; rintro e w' ⟨rfl, rfl⟩))
  go_loop [8] (fun c => ∃ k : Nat, k ≤ 64 ∧ c = .int .i64 k ∧ (n).toNat % 2 ^ k = 0) (fun c => 64 - (intOf c).toNat)
  case atStart => exact ⟨0, by omega, rfl, by rw [Nat.pow_zero]; exact Nat.mod_one _⟩
  case round =>
    obtain ⟨k, hk, rfl, hlt⟩ := hrel
    have HL := Lib.hid hlt
    clear hlt
    by_cases hz : k < 64
    · by_cases hbit : (n).toNat / 2 ^ k % 2 = 0
      · have hbb : (bits .and .u64 (n / 2 ^ k) 1 == 0) = true := by rw [HY.out, hbit]; rfl
        have HB := Lib.hid hbit
        clear hbit
        go_wp2
        go_round
        case rel => exact ⟨k + 1, by omega, by go_num, tz_step _ k HL.out HB.out⟩
        case measure => simp [intOf]; omega
      · have hbb : (bits .and .u64 (n / 2 ^ k) 1 == 0) = false := by rw [HY.out, beq_eq_false_iff_ne]; omega
        have HB := Lib.hid hbit
        clear hbit
        go_wp2
        go_ret2
        exact ⟨by rw [tz_end 64 _ k hz HL.out HB.out]; rfl, rfl⟩
    · obtain rfl : k = 64 := by omega
      go_wp2
      go_ret2
      exact ⟨by rw [tz_all 64 _ (by simp only [Nat.reducePow]; omega) HL.out]; rfl, rfl⟩
set_option maxRecDepth 100000 in
set_option maxHeartbeats 1000000 in
theorem ref_pop64 (n : Int) (h0 : 0 ≤ n) (h1 : n ≤ 18446744073709551615) (w : World) :
    Calls Tryz.prog 8 #[.int .i64 123, .int .u64 n] w fun e w' => e = .returned (.tuple #[.int .u64 (popN 64 (n).toNat : Nat), .bool true]) ∧ w' = w := by
  have b0 : 0 ≤ n := by omega
  have b1 : n < 18446744073709551616 := by omega
  have hy := bit1 (n) b0 (by omega)
  have HY := Lib.hid hy
  clear hy
  go_enter Tryz.func8, Tryz.ntmps8
  go_wp2_with (first | (go_at_call 6; refine (is_1 _ (by simp) _).mono ?_; rintro e w' ⟨rfl, rfl⟩))
  go_loop [9, 10] (fun a c => ∃ k : Nat, k ≤ 64 ∧ c = .int .i64 k ∧ a = .int .u64 (popN k (n).toNat : Nat)) (fun _ c => 64 - (intOf c).toNat)
  case atStart => exact ⟨0, by omega, rfl, rfl⟩
  case round =>
    obtain ⟨k, hk, rfl, rfl⟩ := hrel
    have hle := popN_le k (n).toNat
    by_cases hz : k < 64
    · go_wp2
      go_round
      case rel => exact ⟨k + 1, by omega, by go_num, by rw [popN_snoc, HY.out, wrap_u64k]; exact congrArg (Value.int .u64) (by omega)⟩
      case measure => simp [intOf]; omega
    · obtain rfl : k = 64 := by omega
      go_wp2
      go_ret2
      exact ⟨rfl, rfl⟩
end Go.Vm.Bits
