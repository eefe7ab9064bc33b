/- The law MemSigns: its call answers true. -/
import Derived.Test.YtfjnhdbbjggkmaaMemSigns0
set_option linter.unusedVariables false
set_option linter.unusedSimpArgs false
namespace Go.Proofs.Ytfjnhdbbjggkmaa.Mem
open Go.RowKit Go.Proofs.YtfjnhdbbjggkmaaW.PrintWords Go.Proofs.YtfjnhdbbjggkmaaW.PrintLast Go.Proofs.YtfjnhdbbjggkmaaW.PrintMore Go.Proofs.Ytfjnhdbbjggkmaa.PMemBytes
theorem or_hi1 (x : Int) (h0 : 0 ≤ x) (h1 : x < 256) : Go.bits .or .u64 x 18446744073709551360 = x + 18446744073709551360 := by
  obtain ⟨m, rfl⟩ : ∃ m : Nat, x = m := ⟨x.toNat, by omega⟩
  have h := or_high 8 m (by decide) (by omega)
  exact h
theorem or_hi2 (x : Int) (h0 : 0 ≤ x) (h1 : x < 65536) : Go.bits .or .u64 x 18446744073709486080 = x + 18446744073709486080 := by
  obtain ⟨m, rfl⟩ : ∃ m : Nat, x = m := ⟨x.toNat, by omega⟩
  have h := or_high 16 m (by decide) (by omega)
  exact h
theorem or_hi4 (x : Int) (h0 : 0 ≤ x) (h1 : x < 4294967296) : Go.bits .or .u64 x 18446744069414584320 = x + 18446744069414584320 := by
  obtain ⟨m, rfl⟩ : ∃ m : Nat, x = m := ⟨x.toNat, by omega⟩
  have h := or_high 32 m (by decide) (by omega)
  exact h
theorem want0 (x : Int) (h0 : 0 ≤ x) (h1 : x < 256) : x + 4294967040 = (Go.bits .or .u64 x (IntKind.u64.wrap 4722366482869645213440)).tmod 4294967296 := by
  have e : IntKind.u64.wrap 4722366482869645213440 = 18446744073709551360 := by rw [wrap_u64k]; rfl
  rw [e, or_hi1 x h0 h1]
  rw [Int.tmod_eq_emod_of_nonneg (by omega)]; omega
theorem want1 (x : Int) (h0 : 0 ≤ x) (h1 : x < 65536) : x + 4294901760 = (Go.bits .or .u64 x (IntKind.u64.wrap 1208925819614629174640640)).tmod 4294967296 := by
  have e : IntKind.u64.wrap 1208925819614629174640640 = 18446744073709486080 := by rw [wrap_u64k]; rfl
  rw [e, or_hi2 x h0 h1]
  rw [Int.tmod_eq_emod_of_nonneg (by omega)]; omega
theorem want2 (x : Int) (h0 : 0 ≤ x) (h1 : x < 256) : x + 18446744073709551360 = Go.bits .or .u64 x (IntKind.u64.wrap 4722366482869645213440) := by
  have e : IntKind.u64.wrap 4722366482869645213440 = 18446744073709551360 := by rw [wrap_u64k]; rfl
  rw [e, or_hi1 x h0 h1]
theorem want3 (x : Int) (h0 : 0 ≤ x) (h1 : x < 65536) : x + 18446744073709486080 = Go.bits .or .u64 x (IntKind.u64.wrap 1208925819614629174640640) := by
  have e : IntKind.u64.wrap 1208925819614629174640640 = 18446744073709486080 := by rw [wrap_u64k]; rfl
  rw [e, or_hi2 x h0 h1]
theorem want4 (x : Int) (h0 : 0 ≤ x) (h1 : x < 4294967296) : x + 18446744069414584320 = Go.bits .or .u64 x (IntKind.u64.wrap 79228162514264337589248983040) := by
  have e : IntKind.u64.wrap 79228162514264337589248983040 = 18446744069414584320 := by rw [wrap_u64k]; rfl
  rw [e, or_hi4 x h0 h1]
set_option maxRecDepth 100000 in
set_option maxHeartbeats 2000000 in
theorem memSigns_calls (A : Option Addr) (len cap : Nat) (zs : List Int) (n1 : Int) (w1 : (Lit.int .u8 n1).wf = true) (W : World) (y : Go.Vm.IsRow .u8 W A len cap zs) :
    Calls Try.prog 6 #[.slice A len cap, .int .u8 n1] W fun e W' => e = .returned (.bool true) ∧ Below W.heap.size W W' := by
  obtain ⟨hlen, hcap, hC, hwf⟩ := row_C y
  have r1 := (Lit.wf_int_iff _ _).1 w1
  have m1 : IntKind.min .u8 = 0 := by decide
  have x1 : IntKind.max .u8 = 255 := by decide
  rw [m1, x1] at r1
  have hB : ByteL (zs.take len) := fun x hx => by
    have q := (Lit.wf_int_iff _ _).1 (hwf x hx)
    rw [m1, x1] at q; exact q
  clear hwf y w1 m1 x1
  generalize zs.take len = l at hlen hC hB
  subst hlen
  have HC := Lib.hid hC
  have hmx : l.length ≤ 9223372036854775807 := hC.2.1
  clear hC
  by_cases h8 : l.length ≤ 20
  · obtain ⟨a, ha⟩ : ∃ a : Nat, n1 % 24 = a := ⟨(n1 % 24).toNat, by omega⟩
    have ha2 : a < 24 := by omega
    go_enter Try.func6, Try.ntmps6
    go_wp2_with fail
    refine (begun14 _).mono ?_
    rintro e w' ⟨rfl, hb⟩
    have HC1 := Lib.hid (Kd.C_below HC.out hb)
    go_wp2_with fail
    go_loopw [6] (fun i wr => ∃ k : Nat, k ≤ 5 ∧ i = .int .i64 k ∧ Drawn0 (w'.alloc (Obj.cells #[Value.int IntKind.i64 44, Value.int IntKind.i64 45, Value.int IntKind.i64 1, Value.int IntKind.i64 46, Value.int IntKind.i64 47, Value.int IntKind.i64 2, Value.int IntKind.i64 48, Value.int IntKind.i64 49, Value.int IntKind.i64 1, Value.int IntKind.i64 50, Value.int IntKind.i64 51, Value.int IntKind.i64 2, Value.int IntKind.i64 52, Value.int IntKind.i64 53, Value.int IntKind.i64 4] 38)) wr) (fun i _ => 5 - (intOf i).toNat)
    case atStart => exact ⟨0, by omega, rfl, Drawn0.refl _⟩
    case round =>
      obtain ⟨k, hk, rfl, ⟨⟨nd, rfl⟩⟩⟩ := hrel
      have HA := Lib.hid ha
      have ea : ((a : Int) + 0).toNat = a := by omega
      have EA := Lib.hid ea
      clear ha ea
      obtain rfl | rfl | rfl | rfl | rfl | rfl : k = 0 ∨ k = 1 ∨ k = 2 ∨ k = 3 ∨ k = 4 ∨ k = 5 := by omega
      · by_cases hf : a + 1 ≤ l.length
        · obtain ⟨ad, rfl, _⟩ := HC.out.2.2 (by omega)
          have hx := leP_bd hB 1 a
          have hd : decide ((a : Int) + 1 ≤ (l.length : Int)) = true := decide_eq_true (by omega)
          have HX := Lib.hid hx
          have x0 : 0 ≤ leP l a 1 := hx.1
          have x1 : leP l a 1 < 256 := hx.2
          clear hx
          have HCr := Lib.hid (fun (o : Obj) (m : Nat) => Kd.C_below (Kd.C_below HC1.out ((Below.refl _ _).alloc (Nat.le_refl _) o)) (Drawn0.below (⟨⟨m, rfl⟩⟩ : Drawn0 (w'.alloc o) ((w'.alloc o).drewN m))))
          by_cases hs : leP l a 1 < 128
          · have q1 : (leP l a 1 / 128 == 1) = false := by rw [beq_eq_false_iff_ne]; omega
            go_wp2_with fail
            rw [HA.out]
            refine (load_s ad l cap 1 44 a 0 (leP l a 1) _ rfl (HCr.out _ _) hcap hB (by omega) (by omega) (by omega) (by rw [EA.out]; exact sp44 _ x0 hs)).mono ?_
            rintro e w2 ⟨rfl, ⟨nd2, rfl⟩⟩
            go_wp2_with fail
            try rw [HA.out]
            refine (load_s ad l cap 1 45 a 0 (leP l a 1) _ rfl (HCr.out _ _) hcap hB (by omega) (by omega) (by omega) (by rw [EA.out]; exact sg45 _)).mono ?_
            rintro e w3 ⟨rfl, ⟨nd3, rfl⟩⟩
            have HA2 := HA.out
            go_wp2
            go_roundw
            case rel => exact ⟨1, by omega, rfl, ⟨⟨_, rfl⟩⟩⟩
            case measure => (simp [intOf]; try omega)
          · have q1 : (leP l a 1 / 128 == 1) = true := by rw [beq_iff_eq]; omega
            have Q2 := Lib.hid (want0 _ x0 x1)
            go_wp2_with fail
            rw [HA.out]
            refine (load_s ad l cap 1 44 a 0 (leP l a 1 + 4294967040) _ rfl (HCr.out _ _) hcap hB (by omega) (by omega) (by omega) (by rw [EA.out]; exact sm44 _ (by omega) x1)).mono ?_
            rintro e w2 ⟨rfl, ⟨nd2, rfl⟩⟩
            go_wp2_with fail
            try rw [HA.out]
            refine (load_s ad l cap 1 45 a 0 (leP l a 1) _ rfl (HCr.out _ _) hcap hB (by omega) (by omega) (by omega) (by rw [EA.out]; exact sg45 _)).mono ?_
            rintro e w3 ⟨rfl, ⟨nd3, rfl⟩⟩
            have HA2 := HA.out
            go_wp2
            all_goals first
              | exact absurd Q2.out (by assumption)
              | (go_roundw
                 case rel => exact ⟨1, by omega, rfl, ⟨⟨_, rfl⟩⟩⟩
                 case measure => (simp [intOf]; try omega))
        · have hd : decide ((a : Int) + 1 ≤ (l.length : Int)) = false := decide_eq_false (by omega)
          go_wp2_with fail
          rw [HA.out]
          refine (load_f A l.length cap 1 44 a 0 _ rfl hmx (by omega) (by omega) (by omega)).mono ?_
          rintro e w2 ⟨rfl, ⟨nd2, rfl⟩⟩
          go_wp2_with fail
          try rw [HA.out]
          refine (load_f A l.length cap 1 45 a 0 _ rfl hmx (by omega) (by omega) (by omega)).mono ?_
          rintro e w3 ⟨rfl, ⟨nd3, rfl⟩⟩
          have HA2 := HA.out
          go_wp2
          go_roundw
          case rel => exact ⟨1, by omega, rfl, ⟨⟨_, rfl⟩⟩⟩
          case measure => (simp [intOf]; try omega)
      · by_cases hf : a + 2 ≤ l.length
        · obtain ⟨ad, rfl, _⟩ := HC.out.2.2 (by omega)
          have hx := leP_bd hB 2 a
          have hd : decide ((a : Int) + 2 ≤ (l.length : Int)) = true := decide_eq_true (by omega)
          have HX := Lib.hid hx
          have x0 : 0 ≤ leP l a 2 := hx.1
          have x1 : leP l a 2 < 65536 := hx.2
          clear hx
          have HCr := Lib.hid (fun (o : Obj) (m : Nat) => Kd.C_below (Kd.C_below HC1.out ((Below.refl _ _).alloc (Nat.le_refl _) o)) (Drawn0.below (⟨⟨m, rfl⟩⟩ : Drawn0 (w'.alloc o) ((w'.alloc o).drewN m))))
          by_cases hs : leP l a 2 < 32768
          · have q1 : (leP l a 2 / 32768 == 1) = false := by rw [beq_eq_false_iff_ne]; omega
            go_wp2_with fail
            rw [HA.out]
            refine (load_s ad l cap 2 46 a 0 (leP l a 2) _ rfl (HCr.out _ _) hcap hB (by omega) (by omega) (by omega) (by rw [EA.out]; exact sp46 _ x0 hs)).mono ?_
            rintro e w2 ⟨rfl, ⟨nd2, rfl⟩⟩
            go_wp2_with fail
            try rw [HA.out]
            refine (load_s ad l cap 2 47 a 0 (leP l a 2) _ rfl (HCr.out _ _) hcap hB (by omega) (by omega) (by omega) (by rw [EA.out]; exact sg47 _)).mono ?_
            rintro e w3 ⟨rfl, ⟨nd3, rfl⟩⟩
            have HA2 := HA.out
            go_wp2
            go_roundw
            case rel => exact ⟨2, by omega, rfl, ⟨⟨_, rfl⟩⟩⟩
            case measure => (simp [intOf]; try omega)
          · have q1 : (leP l a 2 / 32768 == 1) = true := by rw [beq_iff_eq]; omega
            have Q2 := Lib.hid (want1 _ x0 x1)
            go_wp2_with fail
            rw [HA.out]
            refine (load_s ad l cap 2 46 a 0 (leP l a 2 + 4294901760) _ rfl (HCr.out _ _) hcap hB (by omega) (by omega) (by omega) (by rw [EA.out]; exact sm46 _ (by omega) x1)).mono ?_
            rintro e w2 ⟨rfl, ⟨nd2, rfl⟩⟩
            go_wp2_with fail
            try rw [HA.out]
            refine (load_s ad l cap 2 47 a 0 (leP l a 2) _ rfl (HCr.out _ _) hcap hB (by omega) (by omega) (by omega) (by rw [EA.out]; exact sg47 _)).mono ?_
            rintro e w3 ⟨rfl, ⟨nd3, rfl⟩⟩
            have HA2 := HA.out
            go_wp2
            all_goals first
              | exact absurd Q2.out (by assumption)
              | (go_roundw
                 case rel => exact ⟨2, by omega, rfl, ⟨⟨_, rfl⟩⟩⟩
                 case measure => (simp [intOf]; try omega))
        · have hd : decide ((a : Int) + 2 ≤ (l.length : Int)) = false := decide_eq_false (by omega)
          go_wp2_with fail
          rw [HA.out]
          refine (load_f A l.length cap 2 46 a 0 _ rfl hmx (by omega) (by omega) (by omega)).mono ?_
          rintro e w2 ⟨rfl, ⟨nd2, rfl⟩⟩
          go_wp2_with fail
          try rw [HA.out]
          refine (load_f A l.length cap 2 47 a 0 _ rfl hmx (by omega) (by omega) (by omega)).mono ?_
          rintro e w3 ⟨rfl, ⟨nd3, rfl⟩⟩
          have HA2 := HA.out
          go_wp2
          go_roundw
          case rel => exact ⟨2, by omega, rfl, ⟨⟨_, rfl⟩⟩⟩
          case measure => (simp [intOf]; try omega)
      · by_cases hf : a + 1 ≤ l.length
        · obtain ⟨ad, rfl, _⟩ := HC.out.2.2 (by omega)
          have hx := leP_bd hB 1 a
          have hd : decide ((a : Int) + 1 ≤ (l.length : Int)) = true := decide_eq_true (by omega)
          have HX := Lib.hid hx
          have x0 : 0 ≤ leP l a 1 := hx.1
          have x1 : leP l a 1 < 256 := hx.2
          clear hx
          have HCr := Lib.hid (fun (o : Obj) (m : Nat) => Kd.C_below (Kd.C_below HC1.out ((Below.refl _ _).alloc (Nat.le_refl _) o)) (Drawn0.below (⟨⟨m, rfl⟩⟩ : Drawn0 (w'.alloc o) ((w'.alloc o).drewN m))))
          by_cases hs : leP l a 1 < 128
          · have q1 : (leP l a 1 / 128 == 1) = false := by rw [beq_eq_false_iff_ne]; omega
            go_wp2_with fail
            rw [HA.out]
            refine (load_s ad l cap 1 48 a 0 (leP l a 1) _ rfl (HCr.out _ _) hcap hB (by omega) (by omega) (by omega) (by rw [EA.out]; exact sp48 _ x0 hs)).mono ?_
            rintro e w2 ⟨rfl, ⟨nd2, rfl⟩⟩
            go_wp2_with fail
            try rw [HA.out]
            refine (load_s ad l cap 1 49 a 0 (leP l a 1) _ rfl (HCr.out _ _) hcap hB (by omega) (by omega) (by omega) (by rw [EA.out]; exact sg49 _)).mono ?_
            rintro e w3 ⟨rfl, ⟨nd3, rfl⟩⟩
            have HA2 := HA.out
            go_wp2
            go_roundw
            case rel => exact ⟨3, by omega, rfl, ⟨⟨_, rfl⟩⟩⟩
            case measure => (simp [intOf]; try omega)
          · have q1 : (leP l a 1 / 128 == 1) = true := by rw [beq_iff_eq]; omega
            have Q2 := Lib.hid (want2 _ x0 x1)
            go_wp2_with fail
            rw [HA.out]
            refine (load_s ad l cap 1 48 a 0 (leP l a 1 + 18446744073709551360) _ rfl (HCr.out _ _) hcap hB (by omega) (by omega) (by omega) (by rw [EA.out]; exact sm48 _ (by omega) x1)).mono ?_
            rintro e w2 ⟨rfl, ⟨nd2, rfl⟩⟩
            go_wp2_with fail
            try rw [HA.out]
            refine (load_s ad l cap 1 49 a 0 (leP l a 1) _ rfl (HCr.out _ _) hcap hB (by omega) (by omega) (by omega) (by rw [EA.out]; exact sg49 _)).mono ?_
            rintro e w3 ⟨rfl, ⟨nd3, rfl⟩⟩
            have HA2 := HA.out
            go_wp2
            all_goals first
              | exact absurd Q2.out (by assumption)
              | (go_roundw
                 case rel => exact ⟨3, by omega, rfl, ⟨⟨_, rfl⟩⟩⟩
                 case measure => (simp [intOf]; try omega))
        · have hd : decide ((a : Int) + 1 ≤ (l.length : Int)) = false := decide_eq_false (by omega)
          go_wp2_with fail
          rw [HA.out]
          refine (load_f A l.length cap 1 48 a 0 _ rfl hmx (by omega) (by omega) (by omega)).mono ?_
          rintro e w2 ⟨rfl, ⟨nd2, rfl⟩⟩
          go_wp2_with fail
          try rw [HA.out]
          refine (load_f A l.length cap 1 49 a 0 _ rfl hmx (by omega) (by omega) (by omega)).mono ?_
          rintro e w3 ⟨rfl, ⟨nd3, rfl⟩⟩
          have HA2 := HA.out
          go_wp2
          go_roundw
          case rel => exact ⟨3, by omega, rfl, ⟨⟨_, rfl⟩⟩⟩
          case measure => (simp [intOf]; try omega)
      · by_cases hf : a + 2 ≤ l.length
        · obtain ⟨ad, rfl, _⟩ := HC.out.2.2 (by omega)
          have hx := leP_bd hB 2 a
          have hd : decide ((a : Int) + 2 ≤ (l.length : Int)) = true := decide_eq_true (by omega)
          have HX := Lib.hid hx
          have x0 : 0 ≤ leP l a 2 := hx.1
          have x1 : leP l a 2 < 65536 := hx.2
          clear hx
          have HCr := Lib.hid (fun (o : Obj) (m : Nat) => Kd.C_below (Kd.C_below HC1.out ((Below.refl _ _).alloc (Nat.le_refl _) o)) (Drawn0.below (⟨⟨m, rfl⟩⟩ : Drawn0 (w'.alloc o) ((w'.alloc o).drewN m))))
          by_cases hs : leP l a 2 < 32768
          · have q1 : (leP l a 2 / 32768 == 1) = false := by rw [beq_eq_false_iff_ne]; omega
            go_wp2_with fail
            rw [HA.out]
            refine (load_s ad l cap 2 50 a 0 (leP l a 2) _ rfl (HCr.out _ _) hcap hB (by omega) (by omega) (by omega) (by rw [EA.out]; exact sp50 _ x0 hs)).mono ?_
            rintro e w2 ⟨rfl, ⟨nd2, rfl⟩⟩
            go_wp2_with fail
            try rw [HA.out]
            refine (load_s ad l cap 2 51 a 0 (leP l a 2) _ rfl (HCr.out _ _) hcap hB (by omega) (by omega) (by omega) (by rw [EA.out]; exact sg51 _)).mono ?_
            rintro e w3 ⟨rfl, ⟨nd3, rfl⟩⟩
            have HA2 := HA.out
            go_wp2
            go_roundw
            case rel => exact ⟨4, by omega, rfl, ⟨⟨_, rfl⟩⟩⟩
            case measure => (simp [intOf]; try omega)
          · have q1 : (leP l a 2 / 32768 == 1) = true := by rw [beq_iff_eq]; omega
            have Q2 := Lib.hid (want3 _ x0 x1)
            go_wp2_with fail
            rw [HA.out]
            refine (load_s ad l cap 2 50 a 0 (leP l a 2 + 18446744073709486080) _ rfl (HCr.out _ _) hcap hB (by omega) (by omega) (by omega) (by rw [EA.out]; exact sm50 _ (by omega) x1)).mono ?_
            rintro e w2 ⟨rfl, ⟨nd2, rfl⟩⟩
            go_wp2_with fail
            try rw [HA.out]
            refine (load_s ad l cap 2 51 a 0 (leP l a 2) _ rfl (HCr.out _ _) hcap hB (by omega) (by omega) (by omega) (by rw [EA.out]; exact sg51 _)).mono ?_
            rintro e w3 ⟨rfl, ⟨nd3, rfl⟩⟩
            have HA2 := HA.out
            go_wp2
            all_goals first
              | exact absurd Q2.out (by assumption)
              | (go_roundw
                 case rel => exact ⟨4, by omega, rfl, ⟨⟨_, rfl⟩⟩⟩
                 case measure => (simp [intOf]; try omega))
        · have hd : decide ((a : Int) + 2 ≤ (l.length : Int)) = false := decide_eq_false (by omega)
          go_wp2_with fail
          rw [HA.out]
          refine (load_f A l.length cap 2 50 a 0 _ rfl hmx (by omega) (by omega) (by omega)).mono ?_
          rintro e w2 ⟨rfl, ⟨nd2, rfl⟩⟩
          go_wp2_with fail
          try rw [HA.out]
          refine (load_f A l.length cap 2 51 a 0 _ rfl hmx (by omega) (by omega) (by omega)).mono ?_
          rintro e w3 ⟨rfl, ⟨nd3, rfl⟩⟩
          have HA2 := HA.out
          go_wp2
          go_roundw
          case rel => exact ⟨4, by omega, rfl, ⟨⟨_, rfl⟩⟩⟩
          case measure => (simp [intOf]; try omega)
      · by_cases hf : a + 4 ≤ l.length
        · obtain ⟨ad, rfl, _⟩ := HC.out.2.2 (by omega)
          have hx := leP_bd hB 4 a
          have hd : decide ((a : Int) + 4 ≤ (l.length : Int)) = true := decide_eq_true (by omega)
          have HX := Lib.hid hx
          have x0 : 0 ≤ leP l a 4 := hx.1
          have x1 : leP l a 4 < 4294967296 := hx.2
          clear hx
          have HCr := Lib.hid (fun (o : Obj) (m : Nat) => Kd.C_below (Kd.C_below HC1.out ((Below.refl _ _).alloc (Nat.le_refl _) o)) (Drawn0.below (⟨⟨m, rfl⟩⟩ : Drawn0 (w'.alloc o) ((w'.alloc o).drewN m))))
          by_cases hs : leP l a 4 < 2147483648
          · have q1 : (leP l a 4 / 2147483648 == 1) = false := by rw [beq_eq_false_iff_ne]; omega
            go_wp2_with fail
            rw [HA.out]
            refine (load_s ad l cap 4 52 a 0 (leP l a 4) _ rfl (HCr.out _ _) hcap hB (by omega) (by omega) (by omega) (by rw [EA.out]; exact sp52 _ x0 hs)).mono ?_
            rintro e w2 ⟨rfl, ⟨nd2, rfl⟩⟩
            go_wp2_with fail
            try rw [HA.out]
            refine (load_s ad l cap 4 53 a 0 (leP l a 4) _ rfl (HCr.out _ _) hcap hB (by omega) (by omega) (by omega) (by rw [EA.out]; exact sg53 _)).mono ?_
            rintro e w3 ⟨rfl, ⟨nd3, rfl⟩⟩
            have HA2 := HA.out
            go_wp2
            go_roundw
            case rel => exact ⟨5, by omega, rfl, ⟨⟨_, rfl⟩⟩⟩
            case measure => (simp [intOf]; try omega)
          · have q1 : (leP l a 4 / 2147483648 == 1) = true := by rw [beq_iff_eq]; omega
            have Q2 := Lib.hid (want4 _ x0 x1)
            go_wp2_with fail
            rw [HA.out]
            refine (load_s ad l cap 4 52 a 0 (leP l a 4 + 18446744069414584320) _ rfl (HCr.out _ _) hcap hB (by omega) (by omega) (by omega) (by rw [EA.out]; exact sm52 _ (by omega) x1)).mono ?_
            rintro e w2 ⟨rfl, ⟨nd2, rfl⟩⟩
            go_wp2_with fail
            try rw [HA.out]
            refine (load_s ad l cap 4 53 a 0 (leP l a 4) _ rfl (HCr.out _ _) hcap hB (by omega) (by omega) (by omega) (by rw [EA.out]; exact sg53 _)).mono ?_
            rintro e w3 ⟨rfl, ⟨nd3, rfl⟩⟩
            have HA2 := HA.out
            go_wp2
            all_goals first
              | exact absurd Q2.out (by assumption)
              | (go_roundw
                 case rel => exact ⟨5, by omega, rfl, ⟨⟨_, rfl⟩⟩⟩
                 case measure => (simp [intOf]; try omega))
        · have hd : decide ((a : Int) + 4 ≤ (l.length : Int)) = false := decide_eq_false (by omega)
          go_wp2_with fail
          rw [HA.out]
          refine (load_f A l.length cap 4 52 a 0 _ rfl hmx (by omega) (by omega) (by omega)).mono ?_
          rintro e w2 ⟨rfl, ⟨nd2, rfl⟩⟩
          go_wp2_with fail
          try rw [HA.out]
          refine (load_f A l.length cap 4 53 a 0 _ rfl hmx (by omega) (by omega) (by omega)).mono ?_
          rintro e w3 ⟨rfl, ⟨nd3, rfl⟩⟩
          have HA2 := HA.out
          go_wp2
          go_roundw
          case rel => exact ⟨5, by omega, rfl, ⟨⟨_, rfl⟩⟩⟩
          case measure => (simp [intOf]; try omega)
      · go_wp2
        go_ret
        have hz := hb.size
        exact ⟨rfl, (hb.trans (((Below.refl _ _).alloc (Nat.le_refl _) _).mono hz)).trans ((Drawn0.below (⟨⟨nd, rfl⟩⟩ : Drawn0 _ (World.drewN _ nd))).mono (by simp; omega))⟩
  · go_enter Try.func6, Try.ntmps6
    go_wp2_with fail
    refine (begun14 _).mono ?_
    rintro e w' ⟨rfl, hb⟩
    go_wp2
    go_ret
    exact ⟨rfl, hb⟩
end Go.Proofs.Ytfjnhdbbjggkmaa.Mem
