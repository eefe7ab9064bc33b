/- The law TableGrows: its call answers true. -/
import Derived.Test.YtfjnhdbbjggkmaaGrwB
import Derived.Deep.QuietTactic
import Derived.BigQuiet
set_option linter.unusedVariables false
set_option linter.unusedSimpArgs false
namespace Go.Proofs.Ytfjnhdbbjggkmaa.Mem
open Go.RowKit Go.Sep Go.Proofs.YtfjnhdbbjggkmaaW.PrintWords Go.Proofs.YtfjnhdbbjggkmaaW.PrintLast Go.Proofs.YtfjnhdbbjggkmaaW.PrintMore Go.Proofs.Ytfjnhdbbjggkmaa.PTableAll Go.Proofs.Ytfjnhdbbjggkmaa.PTableGrows
theorem and_low (x : Int) (h0 : 0 ≤ x) (h1 : x ≤ 18446744073709551615) : Go.bits .and .u64 x 4294967295 = x % 4294967296 := by
  obtain ⟨m, rfl⟩ : ∃ m : Nat, x = m := ⟨x.toNat, by omega⟩
  rw [show (4294967295 : Int) = ((4294967295 : Nat) : Int) from rfl, u64_and_nat _ _ (by omega) (by omega)]
  have : m &&& 4294967295 = m % 2 ^ 32 := Nat.and_two_pow_sub_one_eq_mod m 32
  rw [this]
  omega
theorem R_val {w : World} {base : Nat} {ok : Nat → Prop} {v : Value} {xs : List Int} (h : Kd.R (Kd.int .u64) 23 w base ok v xs) : ∃ A c, v = .slice A xs.length c ∧ xs.length ≤ c ∧ Kd.C (Kd.int .u64) w A xs.length xs := by
  obtain ⟨A, c, rfl⟩ := Kd.R_slice h
  obtain ⟨h1, h2, h3⟩ := Kd.R_reads' h
  exact ⟨A, c, rfl, by omega, h3⟩
set_option maxHeartbeats 2000000 in
theorem tableGrows_calls0 (A : Option Addr) (c : Nat) (l : List Int) (v n mx : Int) (has : Bool) (W : World) (rv : 0 ≤ v ∧ v ≤ 18446744073709551615) (rn : 0 ≤ n ∧ n ≤ 18446744073709551615) (rm : 0 ≤ mx ∧ mx ≤ 4294967295) (hC : Kd.C (Kd.int .u64) W A l.length l) (hc : l.length ≤ c) :
    Calls Try.prog 10 #[.slice A l.length c, .int .u64 v, .int .u64 n, .int .u32 mx, .bool has] W fun e W' => e = .returned (.bool true) ∧ Below W.heap.size W W' := by
  have HC := Lib.hid hC
  by_cases h70 : l.length ≤ 70
  · obtain ⟨K, hK⟩ : ∃ K : Nat, n % 4294967296 = K := ⟨(n % 4294967296).toNat, by omega⟩
    have hn : Go.bits .and .u64 n 4294967295 = K := by rw [and_low n rn.1 (by omega), hK]
    have HG := Lib.hid (fun w' (hb : Below W.heap.size W w') => tgrow_c A c l v n 0 mx has K w' (Kd.C_below HC.out hb) hc hn h70 (by omega))
    have HF := Lib.hid (fun w' (hb : Below W.heap.size W w') => cloakroomref13_GrowTable.calls 140 A c l v n 0 mx has _ _ w' (Kd.C_below HC.out hb) hc (gt_f l v n 0 mx has K hn (by omega) h70 (by omega)))
    have HX := Lib.hid (show (grown l K v mx has).length ≤ 1000 from by
      unfold grown fits
      by_cases h : l.length + K ≤ 64
      · rw [decide_eq_true h]
        cases (!has || decide (((l.length + K : Nat) : Int) ≤ mx)) <;> simp <;> omega
      · rw [decide_eq_false h]
        simp)
    have d0 : decide ((l.length : Int) > 70) = false := decide_eq_false (by omega)
    have d0' : decide (70 < l.length) = false := decide_eq_false (by omega)
    have d0'' : decide (70 < (l.length : Int)) = false := decide_eq_false (by omega)
    clear hK hn hC h70 rv rn rm hc
    go_enter Try.func10, Try.ntmps10
    go_wp2_with fail
    refine (begun15 _).mono ?_
    rintro e w0 ⟨rfl, hb⟩
    have HB0 := Lib.hid hb
    clear hb
    go_wp2_with fail
    have HB1 := Lib.hid (HB0.out.alloc HB0.out.size (.cells #[.int .u32 0, .int .u32 mx, .bool has] 36))
    refine (HG.out _ HB1.out).mono ?_
    rintro e w1 ⟨B, m, cb, rfl, hm⟩
    have HM := Lib.hid hm
    have HB2 := Lib.hid (below_step HB1.out hm.2.1)
    have hc1 : w1.cell? ⟨w0.heap.size, 0, none⟩ = some (.int .u32 0) := pw_cell_below hm.2.1 (by simp)
    have hc2 : w1.cell? ⟨w0.heap.size, 1, none⟩ = some (.int .u32 mx) := pw_cell_below hm.2.1 (by simp)
    have hc3 : w1.cell? ⟨w0.heap.size, 2, none⟩ = some (.bool has) := pw_cell_below hm.2.1 (by simp)
    clear hm
    go_wp2_with fail
    refine (HF.out _ HB2.out).mono ?_
    rintro e w2 ⟨v2, rfl, hR, hb⟩
    have HB3 := Lib.hid (below_step HB2.out hb)
    obtain ⟨A2, c2, rfl, hcc, hC2⟩ := R_val hR
    obtain ⟨hm1, hm2, hm3⟩ := C_of_mine HM.out
    have HS := Lib.hid (cloakroomref1_SameNums.calls ((grown l K v mx has).length + 1) B cb (grown l K v mx has) A2 c2 (grown l K v mx has) true w2 (Kd.C_below hm3 hb) (by omega) hC2 hcc (same_refl _ (by have := HX.out; omega)))
    have hmm := hm1
    clear hR hb hC2 hm3 hm2 hm1
    subst hmm
    clear hc1 hc2 hc3
    generalize fits l.length K mx has = ff
    go_wp2_with fail
    refine HS.out.mono ?_
    rintro e w3 ⟨rfl, ⟨n3, rfl⟩⟩
    have HB4 := Lib.hid (pw_below_drewN HB3.out n3)
    generalize w2.drewN n3 = w4 at HB4 ⊢
    go_wp2
    go_ret
    exact ⟨rfl, HB4.out⟩
  · have d0 : decide ((l.length : Int) > 70) = true := decide_eq_true (by omega)
    have d0' : decide (70 < l.length) = true := decide_eq_true (by omega)
    have d0'' : decide (70 < (l.length : Int)) = true := decide_eq_true (by omega)
    clear hC h70 rv rn rm hc
    go_enter Try.func10, Try.ntmps10
    go_wp2_with fail
    refine (begun15 _).mono ?_
    rintro e w0 ⟨rfl, hb⟩
    have HB0 := Lib.hid hb
    clear hb
    go_wp2
    go_ret
    exact ⟨rfl, HB0.out⟩
theorem tableGrows_calls (A : Option Addr) (len cap : Nat) (zs : List Int) (v : Int) (w1 : (Lit.int .u64 v).wf = true) (n : Int) (w2 : (Lit.int .u64 n).wf = true) (mx : Int) (w3 : (Lit.int .u32 mx).wf = true) (has : Bool) (W : World) (y : Go.Vm.IsRow .u64 W A len cap zs) :
    Calls Try.prog 10 #[.slice A len cap, .int .u64 v, .int .u64 n, .int .u32 mx, .bool has] W fun e W' => e = .returned (.bool true) ∧ Below W.heap.size W W' := by
  obtain ⟨hlen, hcap, hC, hwf⟩ := row_C y
  have r1 := (Lit.wf_int_iff _ _).1 w1
  have r2 := (Lit.wf_int_iff _ _).1 w2
  have r3 := (Lit.wf_int_iff _ _).1 w3
  have m4 : IntKind.min .u64 = 0 := by decide
  have x4 : IntKind.max .u64 = 18446744073709551615 := by decide
  have m5 : IntKind.min .u32 = 0 := by decide
  have x5 : IntKind.max .u32 = 4294967295 := by decide
  rw [m4, x4] at r1 r2
  rw [m5, x5] at r3
  clear hwf y w1 w2 w3 m4 x4 m5 x5
  generalize zs.take len = l at hlen hC
  subst hlen
  exact tableGrows_calls0 A cap l v n mx has W r1 r2 r3 hC hcap
end Go.Proofs.Ytfjnhdbbjggkmaa.Mem
