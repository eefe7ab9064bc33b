/- What a store lays: the contract of mem.Store. -/
import Derived.Test.YtfjnhdbbjggkmaaMemBytesW
set_option linter.unusedVariables false
set_option linter.unusedSimpArgs false
namespace Go.Proofs.Ytfjnhdbbjggkmaa.Mem
open Go.RowKit Go.Proofs.YtfjnhdbbjggkmaaW.PrintWords Go.Proofs.YtfjnhdbbjggkmaaW.PrintLast Go.Proofs.YtfjnhdbbjggkmaaW.PrintMore Go.Proofs.Ytfjnhdbbjggkmaa.PMemBytes
/-- Bytes laid from a place on, the lowest first. -/
def stF (l : List Int) (a : Nat) (v : Int) : Nat → List Int
  | 0 => l
  | k + 1 => (stF l a v k).set (a + k) (v / 2 ^ (8 * k) % 256)
theorem stF_length (l : List Int) (a : Nat) (v : Int) : ∀ k, (stF l a v k).length = l.length
  | 0 => rfl
  | k + 1 => by show ((stF l a v k).set _ _).length = _; rw [List.length_set, stF_length l a v k]
set_option maxHeartbeats 1000000 in
theorem store_yes (g cap n a : Nat) (l : List Int) (base : Nat) (ok : Nat → Prop) (op b off v : Int) (w : World) (hw : stW op = some n) (hR : Kd.R (Kd.int .u8) 5 w base ok (.slice (some ⟨g, 0, none⟩) l.length cap) l) (hcap : l.length ≤ cap) (hl : l.length ≤ 9223372036854775807)
    (h0 : 0 ≤ v) (h1 : v ≤ 18446744073709551615) (ha : atOf b off = a) (hfit : a + n ≤ l.length) :
    Calls Try.prog 13 #[.slice (some ⟨g, 0, none⟩) l.length cap, .int .i64 op, .int .u64 b, .int .u32 off, .int .u64 v] w fun e w' => e = .returned (.int .i64 0) ∧ Kd.R (Kd.int .u8) 5 w' base ok (.slice (some ⟨g, 0, none⟩) l.length cap) (stF l a v n) ∧ w.grownBy w' (some g) := by
  have hn := (stW_ok hw).2
  have HR := Lib.hid hR
  have HA := Lib.hid ha
  clear hR ha
  go_enter Try.func13, Try.ntmps13
  go_wp2_with fail
  refine (part_yes true ⟨g, 0, none⟩ l.length cap n op b off _ (fun w => width_st op n hw w) hn hl hcap (by rw [HA.out]; exact hfit)).mono ?_
  rintro e w' ⟨rfl, ⟨nd, rfl⟩⟩
  rw [HA.out]
  go_wp2_with fail
  go_loopw [24] (fun i wr => ∃ k : Nat, k ≤ n ∧ i = .int .i64 k ∧ Kd.R (Kd.int .u8) 5 wr base ok (.slice (some ⟨g, 0, none⟩) l.length cap) (stF l a v k) ∧ w.grownBy wr (some g)) (fun i _ => n - (intOf i).toNat)
  case atStart => exact ⟨0, Nat.zero_le _, rfl, Kd.R_drewN HR.out nd, ⟨rfl, rfl, rfl, Nat.le_refl _, fun k _ _ => rfl⟩⟩
  case round =>
    obtain ⟨k, hk, rfl, hRk, hg⟩ := hrel
    have HK := Lib.hid hRk
    have HG := Lib.hid hg
    clear hRk hg
    by_cases hlt : k < n
    · obtain ⟨hc, hfz⟩ := Kd.R_celln 0 HK.out ((a + k : Nat) : Int) (by omega) (by omega)
      rw [Int.toNat_natCast] at hc hfz
      have hput := Kd.R_putg HK.out ((a + k : Nat) : Int) (v / 2 ^ (8 * k) % 256)
      rw [Int.toNat_natCast] at hput
      have HP := Lib.hid hput
      clear hput
      go_wp2
      go_roundw
      case rel =>
        refine ⟨k + 1, by omega, by go_num, HP.out.1, HG.out.trans HP.out.2⟩
      case measure => (simp [intOf]; try omega)
    · obtain rfl : k = n := by omega
      go_wp2
      go_ret
      exact ⟨rfl, HK.out, HG.out⟩
set_option maxHeartbeats 1000000 in
theorem store_no (A0 : Option Addr) (len cap n : Nat) (op b off v : Int) (w : World) (hw : stW op = some n) (hl : len ≤ 9223372036854775807) (hfit : len < atOf b off + n) :
    Calls Try.prog 13 #[.slice A0 len cap, .int .i64 op, .int .u64 b, .int .u32 off, .int .u64 v] w fun e w' => e = .returned (.int .i64 7) ∧ Drawn0 w w' := by
  go_enter Try.func13, Try.ntmps13
  go_wp2_with fail
  refine (part_no true A0 len cap n op b off _ (fun w => width_st op n hw w) (stW_ok hw).2 hl hfit).mono ?_
  rintro e w' ⟨rfl, ⟨nd, rfl⟩⟩
  go_wp2_with fail
  go_loop [24] (fun i => i = .int .i64 0) (fun _ => 0)
  case atStart => rfl
  case round =>
    subst hrel
    go_wp2
    go_ret
    exact ⟨rfl, ⟨⟨nd, rfl⟩⟩⟩
end Go.Proofs.Ytfjnhdbbjggkmaa.Mem
