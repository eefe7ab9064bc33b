/- LinkData, walked. -/
import Derived.Test.YtmnebeikafigjaaGreatDoorJ11
set_option linter.unusedVariables false
set_option linter.unusedSimpArgs false
namespace Go.Proofs.YtmnebeikafigjaaGreatDoor
open Go.RowKit Go.Sep Go.St
theorem three_laid (w2 : World) (c0 c1 c2 : Array Value) (t0 t1 t2 : TypeId) {w : World} (hw : w = ((w2.alloc (.cells c0 t0)).alloc (.cells c1 t1)).alloc (.cells c2 t2)) :
    w.heap[w2.heap.size]? = some (.cells c0 t0 (0, 0)) ∧ w.heap[w2.heap.size + 1]? = some (.cells c1 t1 (0, 0)) ∧ w.heap[w2.heap.size + 2]? = some (.cells c2 t2 (0, 0)) ∧ (∀ k, k < w2.heap.size → w.heap[k]? = w2.heap[k]?) ∧ w.os = w2.os ∧ w.output = w2.output ∧ w2.heap.size ≤ w.heap.size := by
  subst hw
  have a0 := (Go.MapKept.heap_alloc w2 (.cells c0 t0)).1
  have s1 : (w2.alloc (.cells c0 t0)).heap.size = w2.heap.size + 1 := by simp
  have a1 := (Go.MapKept.heap_alloc (w2.alloc (.cells c0 t0)) (.cells c1 t1)).1
  have s2 : ((w2.alloc (.cells c0 t0)).alloc (.cells c1 t1)).heap.size = w2.heap.size + 2 := by simp
  have a2 := (Go.MapKept.heap_alloc ((w2.alloc (.cells c0 t0)).alloc (.cells c1 t1)) (.cells c2 t2)).1
  have o1 : ∀ k, k < w2.heap.size + 1 → ((w2.alloc (.cells c0 t0)).alloc (.cells c1 t1)).heap[k]? = (w2.alloc (.cells c0 t0)).heap[k]? := fun k hk => heap_alloc_old _ _ (by rw [s1]; exact hk)
  have o2 : ∀ k, k < w2.heap.size + 2 → (((w2.alloc (.cells c0 t0)).alloc (.cells c1 t1)).alloc (.cells c2 t2)).heap[k]? = ((w2.alloc (.cells c0 t0)).alloc (.cells c1 t1)).heap[k]? := fun k hk => heap_alloc_old _ _ (by rw [s2]; exact hk)
  rw [s1] at a1
  rw [s2] at a2
  refine ⟨(o2 _ (by omega)).trans ((o1 _ (by omega)).trans a0), (o2 _ (by omega)).trans a1, a2, fun k hk => by rw [o2 _ (by omega), o1 _ (by omega)]; exact heap_alloc_old _ _ hk, rfl, rfl, ?_⟩
  simp
  omega
set_option maxRecDepth 100000 in
set_option maxHeartbeats 4000000 in
theorem ld_long (A : Option Addr) (c : Nat) (n : Nat) (hn : 60 < n) (a m : Nat) (W : World) :
    Calls Tryz.prog 7 #[.slice A n c, .int .u16 (a : Int), .int .u8 (m : Int)] W fun e W' => e = .returned (.bool true) ∧ Same0 W W' := by
  have d0 : decide ((60 : Int) < (n : Int)) = true := decide_eq_true (by omega)
  have d1 : decide (60 < n) = true := decide_eq_true hn
  clear hn
  go_enter Tryz.func7, Tryz.ntmps7
  go_wp2_with fail
  refine (begun20 _).mono ?_
  rintro e w0 ⟨rfl, hb0⟩
  have HS0 := Lib.hid hb0
  clear hb0
  go_wp2
  go_ret
  exact ⟨rfl, HS0.out⟩
set_option maxRecDepth 100000 in
set_option maxHeartbeats 4000000 in
theorem ld_main (A : Option Addr) (c : Nat) (bs : List Int) (hl : bs.length ≤ 60) (a m : Nat) (ha : a < 65536) (hm : m < 256) (W : World) (hr : RdL W (AllB W) 1 (num1 .u8) (.slice A bs.length c) bs) (hb : ∀ x ∈ bs, 0 ≤ x ∧ x < 256) :
    Calls Tryz.prog 7 #[.slice A bs.length c, .int .u16 (a : Int), .int .u8 (m : Int)] W fun e W' => e = .returned (.bool true) ∧ Same0 W W' := by
  have d0 : decide ((60 : Int) < (bs.length : Int)) = false := decide_eq_false (by omega)
  have d1 : decide (60 < bs.length) = false := decide_eq_false (by omega)
  obtain ⟨q, hq⟩ : ∃ q : Nat, a + m = q := ⟨_, rfl⟩
  have r1 : IntKind.i64.wrap (a : Int) = a := IntWalk.i64_in _ (by omega)
  have r2 : IntKind.i64.wrap (m : Int) = m := IntWalk.i64_in _ (by omega)
  have r3 : (a : Int) + (m : Int) = (q : Int) := by omega
  have r4 : IntKind.i64.wrap (q : Int) = q := IntWalk.i64_in _ (by omega)
  have r5 : IntKind.u64.wrap (q : Int) = q := IntWalk.u64_in _ (by omega)
  have r6 : IntKind.i64.wrap ((q : Int) + (bs.length : Int)) = (q : Int) + (bs.length : Int) := IntWalk.i64_in _ (by omega)
  have HQ := Lib.hid (show q < 70000 by omega)
  have HR := Lib.hid (And.intro hr (And.intro hb hl))
  clear hr hb ha hm hq hl
  go_enter Tryz.func7, Tryz.ntmps7
  go_wp2_with fail
  refine (begun20 _).mono ?_
  rintro e w0 ⟨rfl, hb0⟩
  have HS0 := Lib.hid hb0
  clear hb0
  go_wp2_with fail
  refine (fixed_form _).mono ?_
  rintro e w2 ⟨tA, fA, bA, mA, gA, xA, eA, cA, dA, tc, fc, bc, mk, gc, xn, xc, ec, cc, dc, rfl, hm, hb2⟩
  have HS2 := Lib.hid (HS0.out.trans (Same0.of_below hb2))
  have HM := Lib.hid hm
  clear hm hb2 HS0
  go_upto_region 8 with (fail)
  refine all_worldC (fun W' => W'.heap[w2.heap.size]? = some (.cells #[.slice tA 4 tc, .slice fA 8 fc, .slice bA 0 bc, .slice mA 1 mk, .slice gA 1 gc, .slice xA xn xc, .bool false, .int .u32 0, .slice eA 0 ec, .bool false, .int .u32 0, .slice cA 8 cc, .slice (some ⟨w2.heap.size + 1 + 1, 0, none⟩) 1 1] 52 (0, 0)) ∧ W'.heap[w2.heap.size + 1]? = some (.cells #[.int .i64 65, .int .u32 0, .int .u32 0, .int .u64 (q : Int), .slice none 0 0, .int .i64 0, .int .i64 11, .int .u32 0, .int .u32 0, .int .u64 0, .slice none 0 0, .int .i64 0] 29 (0, 0)) ∧ W'.heap[w2.heap.size + 2]? = some (.cells #[.int .u8 0, .slice (some ⟨w2.heap.size + 1, 0, none⟩) 2 2, .slice A bs.length c] 45 (0, 0)) ∧ (∀ k, k < w2.heap.size → W'.heap[k]? = w2.heap[k]?) ∧ W'.os = w2.os ∧ W'.output = w2.output ∧ w2.heap.size ≤ W'.heap.size) (three_laid w2 _ _ _ _ _ _ rfl) ?_
  rintro w5 ⟨h0, h1, h2, hold, hos, hout, hsz⟩
  have HS5 := Lib.hid (HS2.out.trans ⟨hos, hout, hsz, hold⟩)
  have HRO := Lib.hid (show Ro (AllB w2) w2 w5 from ⟨⟨hsz, hos, hout⟩, hold⟩)
  clear HS2 hold hos hout
  generalize hmB : w2.heap.size = mB at h0 h1 h2 hsz ⊢
  have HMOD := Lib.hid (show ModR w5 (AllB w5) (MD (q : Int) bs) [.slice tA 4 tc, .slice fA 8 fc, .slice bA 0 bc, .slice mA 1 mk, .slice gA 1 gc, .slice xA xn xc, .bool false, .int .u32 0, .slice eA 0 ec, .bool false, .int .u32 0, .slice cA 8 cc, .slice (some ⟨mB + 1 + 1, 0, none⟩) 1 1] from by
    obtain ⟨hlen, ⟨v0, e0, t0⟩, ⟨v1, e1, t1⟩, ⟨v2, e2, t2⟩, ⟨v3, e3, t3⟩, ⟨v4, e4, t4⟩, ⟨v8, e8, t8⟩, ⟨v11, e11, t11⟩, ⟨v12, e12, t12⟩⟩ := HM.out.mono (S' := AllB w5) HRO.out (fun b hb => Nat.lt_of_lt_of_le hb HRO.out.1.1)
    cases e0; cases e1; cases e2; cases e3; cases e4; cases e8; cases e11
    refine ⟨rfl, ⟨_, rfl, t0⟩, ⟨_, rfl, t1⟩, ⟨_, rfl, t2⟩, ⟨_, rfl, t3⟩, ⟨_, rfl, t4⟩, ⟨_, rfl, t8⟩, ⟨_, rfl, t11⟩, ⟨_, rfl, ?_⟩⟩
    refine rdl_block (sz := 3) (xs := (MD (q : Int) bs).datas) (css := [[.int .u8 0, .slice (some ⟨mB + 1, 0, none⟩) 2 2, .slice A bs.length c]]) (by omega) h2 rfl (by simp) (fun k x cs hx hcs => ?_) (by simp [MD, maxLen])
    have hk := (List.getElem?_eq_some_iff.1 hcs).1
    simp at hk
    subst hk
    cases hx
    cases hcs
    refine ⟨_, _, rfl, ?_, ?_⟩
    · exact ins_block (l := [ins 65 0 (q : Int), ins 11]) h1 (fun x hx => by simp at hx; rcases hx with rfl | rfl <;> rfl) (by simp [maxLen])
    · exact HR.out.1.mono (S' := AllB w5) ⟨⟨HS5.out.size, HS5.out.os, HS5.out.output⟩, fun b hb => HS5.out.block b hb⟩ (fun b hb => Nat.lt_of_lt_of_le hb HS5.out.size) (fun _ _ h => h))
  have hc : ∀ (j : Nat) (v : Value), #[.slice tA 4 tc, .slice fA 8 fc, .slice bA 0 bc, .slice mA 1 mk, .slice gA 1 gc, .slice xA xn xc, .bool false, .int .u32 0, .slice eA 0 ec, .bool false, .int .u32 0, .slice cA 8 cc, .slice (some ⟨mB + 1 + 1, 0, none⟩) 1 1][j]? = some v → w5.cell? ⟨mB, j, none⟩ = some v := fun j v hj => by
    simp only [World.cell?, h0]
    exact hj
  have m0 := hc 0 _ rfl
  have m1 := hc 1 _ rfl
  have m2 := hc 2 _ rfl
  have m3 := hc 3 _ rfl
  have m4 := hc 4 _ rfl
  have m5 := hc 5 _ rfl
  have m6 := hc 6 _ rfl
  have m7 := hc 7 _ rfl
  have m8 := hc 8 _ rfl
  have m9 := hc 9 _ rfl
  have m10 := hc 10 _ rfl
  have m11 := hc 11 _ rfl
  have m12 := hc 12 _ rfl
  clear hc h0 h1 h2 hsz HM HRO
  have HCALL := Lib.hid (show Calls Tryz.prog 24 #[.agg #[.slice tA 4 tc, .slice fA 8 fc, .slice bA 0 bc, .slice mA 1 mk, .slice gA 1 gc, .slice xA xn xc, .bool false, .int .u32 0, .slice eA 0 ec, .bool false, .int .u32 0, .slice cA 8 cc, .slice (some ⟨mB + 1 + 1, 0, none⟩) 1 1]] w5 (MakeR w5 (AllB w5) (fun _ => none) 0 (MD (q : Int) bs) (stD (q : Int) bs 1).1 (stD (q : Int) bs 1).2) from madeD (by have := HQ.out; omega) (by have := HR.out.2.2; omega) HR.out.2.1 HMOD.out ⟨_, _, _, rfl⟩ rfl rfl rfl rfl)
  clear HMOD
  go_wp2_with fail
  refine HCALL.out.mono ?_
  rintro e w10 ⟨iB, S10, L10, hres, hsi, hro, hS, hk10⟩
  have HS10 := Lib.hid (HS5.out.trans (Same0.of_ro hro))
  have HR10 := Lib.hid (show RdL w10 (AllB w10) 1 (num1 .u8) (.slice A bs.length c) bs from HR.out.1.mono (S' := AllB w10) ⟨⟨HS10.out.size, HS10.out.os, HS10.out.output⟩, fun b hb => HS10.out.block b hb⟩ (fun b hb => Nat.lt_of_lt_of_le hb HS10.out.size) (fun _ _ h => h))
  rw [stD1 q bs (by have := HQ.out; omega)] at hres hsi
  clear hro hS hk10 HCALL HS5 m0 m1 m2 m3 m4 m5 m6 m7 m8 m9 m10 m11 m12
  by_cases hfit : q + bs.length ≤ 65536
  rotate_left
  · rw [if_neg hfit] at hres
    have d2 : decide ((65536 : Int) < ((q + bs.length : Nat) : Int)) = true := decide_eq_true (by omega)
    have d3 : decide (65536 < q + bs.length) = true := decide_eq_true (by omega)
    have d4 : decide ((65536 : Int) < (q : Int) + (bs.length : Int)) = true := decide_eq_true (by omega)
    clear hsi hfit
    rcases hres with ⟨_, rfl⟩ | ⟨he, _⟩
    · go_wp2
      go_ret
      exact ⟨rfl, HS10.out⟩
    · exact absurd he (by decide)
  rw [if_pos hfit] at hres hsi
  have d2 : decide ((65536 : Int) < ((q + bs.length : Nat) : Int)) = false := decide_eq_false (by omega)
  have d3 : decide (65536 < q + bs.length) = false := decide_eq_false (by omega)
  have d4 : decide ((65536 : Int) < (q : Int) + (bs.length : Int)) = false := decide_eq_false (by omega)
  rcases hres with ⟨he, _⟩ | ⟨_, rfl⟩
  · exact absurd rfl he
  obtain ⟨⟨g, mc, i14, hmc1, hmc2, hcell⟩, ⟨dg, dcap, i18, dcell⟩⟩ := left_of hsi hfit
  obtain ⟨i8, hi8, hs8⟩ : ∃ i8, Tryz.prog.info? 5 = some i8 ∧ i8.size = 1 := by
    have := infoU8d
    cases hq : Tryz.prog.info? 5 with
    | none => rw [hq] at this; cases this
    | some i => rw [hq] at this; exact ⟨i, rfl, by simpa using this⟩
  have hs0 := slice_both Tryz.underlying34 hi8 hs8 (some ⟨g, 0, none⟩) 65536 mc q (q + bs.length) (by omega) (by omega)
  rw [show q + bs.length - q = bs.length by omega, show ((q + bs.length : Nat) : Int) = (q : Int) + (bs.length : Int) by omega] at hs0
  have hs1 : ∀ n, RdL (w10.drewN n) (AllB (w10.drewN n)) 1 (num1 .u8) (.slice (if mc = q then some ⟨g, 0, none⟩ else (some (⟨g, 0, none⟩ : Addr)).map (·.add q)) bs.length (mc - q)) bs := fun n => by
    refine ⟨_, _, rfl, by omega, by have := HR.out.2.2; simp only [maxLen]; omega, fun hp => ?_, fun h => by split at h <;> cases h⟩
    rw [if_neg (by omega)]
    have hm0 : memX.length = 65536 := by unfold memX; exact List.length_replicate
    have hadd : (Addr.mk g 0 none).add q = ⟨g, q, none⟩ := by unfold Addr.add; split <;> simp_all
    have hg : g < w10.heap.size := by
      obtain ⟨v, hv, _⟩ := laid_get hfit 0 (by omega)
      exact World.block_lt_of_cell? _ _ (hcell 0 _ hv)
    refine ⟨g, q, by simp [hadd], hg, fun k x hx => ⟨[.int .u8 x], rfl, rfl, fun j u hu => ?_⟩⟩
    have hj : j = 0 := by have := (List.getElem?_eq_some_iff.1 hu).1; simp at this; omega
    subst hj
    cases hu
    have := hcell (q + k) (.int .u8 x) (ints_get _ _ _ _ (laid_mid (by rw [hm0]; exact hfit) k x hx))
    rw [Nat.mul_one, Nat.add_zero]
    exact this
  obtain ⟨B, hB⟩ : ∃ B, (if mc = q then some ⟨g, 0, none⟩ else (some (⟨g, 0, none⟩ : Addr)).map (·.add q)) = B := ⟨_, rfl⟩
  rw [hB] at hs0 hs1
  have cv1 := fun n => conv_bytes (hs1 n)
  have cv2 : ∀ n, (convert 34 9 (.slice A bs.length c)).run Tryz.prog (w10.drewN n) = .ok (.string (strOfNums bs)) (w10.drewN n) := fun n => conv_bytes (w := w10.drewN n) (HR10.out.mono (S' := AllB (w10.drewN n)) ⟨⟨Nat.le_refl _, rfl, rfl⟩, fun _ _ => rfl⟩ (fun _ h => h) (fun _ _ h => h))
  have HC := Lib.hid hcell
  have HF := Lib.hid hfit
  clear hsi hcell hfit hs1 hi8 hs8 hB
  go_wp2_with fail
  go_quiet (fail)
  refine all_worldC (fun W' => Below w10.heap.size w10 W') ⟨rfl, rfl, rfl, Nat.le_refl _, fun _ _ => rfl⟩ ?_
  rintro w11 hb11
  replace i14 := (hb11.cell (World.block_lt_of_cell? _ _ i14)).trans i14
  replace i18 := (hb11.cell (World.block_lt_of_cell? _ _ i18)).trans i18
  replace dcell := (hb11.cell (World.block_lt_of_cell? _ _ dcell)).trans dcell
  have HC1 := Lib.hid (show ∀ (k : Nat) (v : Value), (ints .u8 (laid memX q bs))[k]? = some v → w11.cell? ⟨g, k, none⟩ = some v from fun k v hk => (hb11.cell (World.block_lt_of_cell? _ _ (HC.out k v hk))).trans (HC.out k v hk))
  have HS11 := Lib.hid (HS10.out.trans (Same0.of_below hb11))
  clear hb11 hs0 cv1 cv2 HC HR10 HS10
  go_wp2_with fail
  go_loopw [11] (fun i wr => ∃ n : Nat, n ≤ 65536 ∧ i = .int .i64 n ∧ wr = w11) (fun i _ => 65536 - (intOf i).toNat)
  case atStart => exact ⟨0, Nat.zero_le _, rfl, rfl⟩
  case round =>
    obtain ⟨n, hn, rfl, rfl⟩ := hrel
    by_cases hlt : n < 65536
    · obtain ⟨v, hv, hz⟩ := laid_get HF.out n hlt
      have cv := HC1.out n _ hv
      have i1 : decide ((n : Int) < 65536) = true := decide_eq_true (by omega)
      have i2 : (n : Int) < 65536 := by omega
      have hi : IntKind.i64.wrap ((n : Int) + 1) = (n : Int) + 1 := IntWalk.i64_in _ (by omega)
      have HLT := Lib.hid hlt
      have HZ := Lib.hid hz
      by_cases hin : q ≤ n ∧ n < q + bs.length
      · have c1 : decide ((n : Int) < (q : Int)) = false := decide_eq_false (by omega)
        have c2 : decide ((q : Int) + (bs.length : Int) ≤ (n : Int)) = false := decide_eq_false (by omega)
        have c3 : decide ((n : Int) ≥ (q : Int) + (bs.length : Int)) = false := decide_eq_false (by omega)
        have c4 : decide (n < q) = false := decide_eq_false (by omega)
        have c5 : decide (q + bs.length ≤ n) = false := decide_eq_false (by omega)
        have HIN := Lib.hid hin
        clear hv hz hn hlt hin
        by_cases hv0 : v = 0
        · subst hv0
          go_wp2
          go_roundw
          case rel => exact ⟨n + 1, HLT.out, by go_num, trivial⟩
          case measure => (simp [intOf]; try omega)
        · have v0 : (v == 0) = false := beq_eq_false_iff_ne.2 hv0
          have HV := Lib.hid (And.intro hv0 (And.intro HIN.out.1 (And.intro (show ¬ n < q by have := HIN.out.1; omega) (And.intro HIN.out.2 (And.intro (show ¬ q + bs.length ≤ n by have := HIN.out.2; omega) (And.intro (show (q : Int) ≤ n by have := HIN.out.1; omega) (And.intro (show ¬ (n : Int) < q by have := HIN.out.1; omega) (And.intro (show (n : Int) < (q : Int) + (bs.length : Int) by have := HIN.out.2; omega) (show ¬ (q : Int) + (bs.length : Int) ≤ (n : Int) by have := HIN.out.2; omega)))))))))
          clear hv0 v0 r1 r2 r3 r4 r5 d0 d1 d2 d3 d4 c1 c2 c3 c4 c5 i18 dcell
          go_upto_region 16 with (fail)
          iterate 29 go_step
          iterate 27 (first | (rw [if_neg HV.out.1]; rename_i kk hkk; refine hkk _ _ ?_; clear hkk kk) | (rw [if_pos HV.out.1]; rename_i kk hkk; refine hkk _ _ ?_; clear hkk kk) | (rw [if_pos HV.out.2.1]; rename_i kk hkk; refine hkk _ _ ?_; clear hkk kk) | (rw [if_neg HV.out.2.2.1]; rename_i kk hkk; refine hkk _ _ ?_; clear hkk kk) | (rw [if_pos HV.out.2.2.2.1]; rename_i kk hkk; refine hkk _ _ ?_; clear hkk kk) | (rw [if_neg HV.out.2.2.2.2.1]; rename_i kk hkk; refine hkk _ _ ?_; clear hkk kk) | (rw [if_pos HV.out.2.2.2.2.2.1]; rename_i kk hkk; refine hkk _ _ ?_; clear hkk kk) | (rw [if_neg HV.out.2.2.2.2.2.2.1]; rename_i kk hkk; refine hkk _ _ ?_; clear hkk kk) | (rw [if_pos HV.out.2.2.2.2.2.2.2.1]; rename_i kk hkk; refine hkk _ _ ?_; clear hkk kk) | (rw [if_neg HV.out.2.2.2.2.2.2.2.2]; rename_i kk hkk; refine hkk _ _ ?_; clear hkk kk) | go_step)
          simp only [decide_eq_false HV.out.1, decide_eq_true HV.out.2.1, decide_eq_false HV.out.2.2.1, decide_eq_true HV.out.2.2.2.1, decide_eq_false HV.out.2.2.2.2.1, decide_eq_true HV.out.2.2.2.2.2.1, decide_eq_false HV.out.2.2.2.2.2.2.1, decide_eq_true HV.out.2.2.2.2.2.2.2.1, decide_eq_false HV.out.2.2.2.2.2.2.2.2, Bool.not_false, Bool.not_true, Bool.and_false, Bool.and_true, Bool.false_and, Bool.true_and, Bool.or_false, Bool.or_true, Bool.false_or, Bool.true_or]
          go_wp2
          go_roundw
          case rel => exact ⟨n + 1, HLT.out, by go_num, trivial⟩
          case measure => (simp [intOf]; try omega)
      · obtain rfl : v = 0 := hz (by omega)
        clear hv hz hn hlt hin
        go_wp2
        go_roundw
        case rel => exact ⟨n + 1, HLT.out, by go_num, trivial⟩
        case measure => (simp [intOf]; try omega)
    · obtain rfl : n = 65536 := by omega
      have hd0 : decide (((65536 : Nat) : Int) < 65536) = false := by decide
      clear hlt hn
      go_wp2
      go_ret
      exact ⟨rfl, HS11.out⟩
end Go.Proofs.YtmnebeikafigjaaGreatDoor
