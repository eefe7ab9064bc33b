/- Lemmas of the walk, part 13. -/
import Derived.Test.YtmnebeikafigjaaGreatDoorJ12
import Derived.Test.YtmnebeikafigjaaGreatDoorJ10
/- The reference's Make, walked. -/
set_option linter.unusedVariables false
set_option linter.unusedSimpArgs false
namespace Go.Proofs.YtmnebeikafigjaaGreatDoor
open Go.RowKit Go.Sep Go.St
variable {w : World} {S : Nat → Prop} {L : Key → Option Ck} {u : Nat} {M : Mo} {mc : List Value}
def RMk (w : World) (S : Nat → Prop) (L : Key → Option Ck) (u : Nat) (M : Mo) (mc : List Value) (o : Option In) (e : Ending) (w' : World) : Prop :=
  match o with
  | some I => ∃ iB S' L', e = .returned (.tuple #[.pointer (some ⟨iB, 0, none⟩), .int .i64 0]) ∧ Sm w' S' L' u iB M mc I ∧ Ro S w w' ∧ (∀ b, S b → S' b) ∧ ∀ q : Key, q.own ≠ some u → q ≠ .tmp 3 → L' q = L q
  | none => e = .returned (.tuple #[.pointer none, .int .i64 7]) ∧ Ro S w w'
set_option maxRecDepth 100000 in
set_option maxHeartbeats 8000000 in
theorem rmake_c (hs : Sep w S L) (hm : ModR w S M mc) (hw : Wf M) (k0 : L .mach = none) (k1 : L (.cfg u) = none) {xA : Option Addr} {xn xc : Nat} {sn : Int} {cs : Bool} {cn : Int} (hx : Mx mc xA xn xc false sn cs cn) (ess : List Es) (hF : Fine M ess) (hT : ∀ x ∈ M.elems, x.mode ≠ 1 → x.mode ≠ 2 → x.table.toNat < M.tabs.length) :
    Calls Tryz.prog 12 #[.agg mc.toArray] w (RMk w S L u M mc (makeI M ess)) := by
  obtain ⟨tA, fA, bA, mA, gA, eA, cA, dA, tc, fc, bc, mk, gc, ec, cc, dc, ⟨hmf⟩⟩ := hm.form hx
  have HN := Lib.hid (fun (w1 : World) (S1 : Nat → Prop) (hs1 : Sep w1 S1 L) (hm1 : ModR w1 S1 M mc) => rnew_c (u := u) hs1 hm1 hw k0 k1 hx ess hF)
  have HS := Lib.hid hs
  have HM := Lib.hid hm
  have HF := Lib.hid (And.intro hF (And.intro hw hT))
  subst hmf
  clear hs hm hw k0 k1 hx hF hT
  go_enter Tryz.func12, Tryz.ntmps12
  go_upto_region 1 with (fail)
  refine all_worldC (fun W' => Below w.heap.size w W' ∧ ∀ (j : Nat) (v : Value), [Value.slice tA M.types.length tc, .slice fA M.funcs.length fc, .slice bA M.tabs.length bc, .slice mA M.mems.length mk, .slice gA M.globs.length gc, .slice xA xn xc, .bool false, .int .u32 sn, .slice eA M.elems.length ec, .bool cs, .int .u32 cn, .slice cA M.codes.length cc, .slice dA M.datas.length dc][j]? = some v → W'.cell? ⟨w.heap.size, j, none⟩ = some v) ⟨(Below.refl _ _).alloc (Nat.le_refl _) _, fun j v hj => by
    simp only [World.cell?, (Go.MapKept.heap_alloc w _).1]
    simpa using hj⟩ ?_
  rintro w1 ⟨hb1, hc⟩
  generalize hpB : w.heap.size = pB at hc ⊢
  have p0 := hc 0 _ rfl
  have p1 := hc 1 _ rfl
  have p2 := hc 2 _ rfl
  have p3 := hc 3 _ rfl
  have p4 := hc 4 _ rfl
  have p5 := hc 5 _ rfl
  have p6 := hc 6 _ rfl
  have p7 := hc 7 _ rfl
  have p8 := hc 8 _ rfl
  have p9 := hc 9 _ rfl
  have p10 := hc 10 _ rfl
  have p11 := hc 11 _ rfl
  have p12 := hc 12 _ rfl
  have hlt : pB < w1.heap.size := World.block_lt_of_cell? _ _ p0
  have HS1 := Lib.hid (show Sep w1 (fun b => S b ∨ b = pB) L from (HS.out.still hb1.size hb1.block).more (fun k c b e1 e2 hb => by
    rcases hb with hb | rfl
    · exact HS.out.ro k c b e1 e2 hb
    · have := Ck.lt (HS.out.holds k c e1) e2
      omega) (fun b hb => by
    rcases hb with hb | rfl
    · exact Nat.lt_of_lt_of_le (HS.out.lt b hb) hb1.size
    · exact hlt))
  have ro01 : Ro S w w1 := ⟨⟨hb1.size, hb1.os, hb1.output⟩, fun b hb => hb1.block b (HS.out.lt b hb)⟩
  have HNC := Lib.hid (HN.out w1 _ HS1.out (HM.out.mono (S' := fun b => S b ∨ b = pB) ro01 (fun b hb => .inl hb)))
  have HRO := Lib.hid ro01
  clear hb1 hc hpB ro01
  go_wp2_with fail
  refine HNC.out.mono ?_
  rintro e w2 ⟨iB, S2, L2, rfl, h2, ro2, hS2, hk2⟩
  have HP := Lib.hid (show ∀ w', Ro S2 w2 w' → w'.cell? ⟨pB, 6, none⟩ = some (.bool false) ∧ w'.cell? ⟨pB, 8, none⟩ = some (.slice eA M.elems.length ec) ∧ w'.cell? ⟨pB, 12, none⟩ = some (.slice dA M.datas.length dc) from fun w' r => by
    have c : ∀ j, w'.cell? ⟨pB, j, none⟩ = w1.cell? ⟨pB, j, none⟩ := fun j => (World.cell?_of_block (a := ⟨pB, j, none⟩) (r.2 pB (hS2 pB (.inr rfl)))).trans (World.cell?_of_block (a := ⟨pB, j, none⟩) (ro2.2 pB (.inr rfl)))
    exact ⟨(c _).trans p6, (c _).trans p8, (c _).trans p12⟩)
  generalize hmcl : ([Value.slice tA M.types.length tc, .slice fA M.funcs.length fc, .slice bA M.tabs.length bc, .slice mA M.mems.length mk, .slice gA M.globs.length gc, .slice xA xn xc, .bool false, .int .u32 sn, .slice eA M.elems.length ec, .bool cs, .int .u32 cn, .slice cA M.codes.length cc, .slice dA M.datas.length dc] : List Value) = mcl at h2 HM ⊢
  have HML := Lib.hid hmcl
  have HRO2 := Lib.hid (show Ro S w w2 ∧ (∀ b, S b → S2 b) ∧ ∀ q : Key, q.own ≠ some u → q ≠ .tmp 3 → L2 q = L q from ⟨HRO.out.trans ro2 (fun b hb => .inl hb), fun b hb => hS2 b (.inl hb), hk2⟩)
  have H2 := Lib.hid h2
  clear h2 ro2 hS2 hk2 hmcl p0 p1 p2 p3 p4 p5 p6 p7 p8 p9 p10 p11 p12 hlt HN HNC HS1 HRO
  go_wp2_with fail
  go_loopw [6] (fun i wr => ∃ n : Nat, n ≤ M.elems.length ∧ i = .int .i64 n ∧ ∃ J L', elemsR M.elems (newI M ess) n = some J ∧ Sm wr S2 L' u iB M mcl J ∧ Ro S2 w2 wr ∧ ∀ q : Key, q.own ≠ some u → L' q = L2 q) (fun i _ => M.elems.length - (intOf i).toNat)
  case atStart => exact ⟨0, Nat.zero_le _, rfl, _, L2, rfl, H2.out, Ro.refl _ _, fun _ _ => rfl⟩
  case round =>
    obtain ⟨n, hn, rfl, J, L3, hJ, h3, ro3, hk3⟩ := hrel
    obtain ⟨q6, q8, q12⟩ := HP.out wr ro3
    by_cases hlt : n < M.elems.length
    · have hx : M.elems[n]? = some M.elems[n] := List.getElem?_eq_getElem hlt
      generalize M.elems[n] = x at hx
      obtain ⟨mc9, bv9, mv9, tv, gv9, ev, dv9, a1, a2, a3, a4, a5, a6, a7, a8⟩ := id h3.si.ins
      obtain ⟨r9, a1', ar⟩ := h3.ins
      obtain ⟨elv, helv, hel⟩ := a2.elems
      have hmce : mc9 = mcl := by
        rw [a1] at a1'
        have e1 := a1'
        injection e1 with e1
        injection e1 with _ _ e1
        exact (List.append_inj e1 (by rw [a2.len, ← HML.out]; rfl)).1
      rw [hmce, ← HML.out] at helv
      cases helv
      obtain ⟨g, o, cs9, rfl, hSg, z0, ⟨ty, ov, iv, rfl, hov, hiv⟩, hcs⟩ := hel.get n x hx
      obtain ⟨oA, oc, rfl, z1, z2, z3, z4⟩ := id hov
      obtain ⟨iA, ic, rfl, z5, z6, z7, z8⟩ := id hiv
      clear z0 z1 z2 z3 z4 z5 z6 z7 z8
      have k0 := hcs 0 _ rfl
      have k1 := hcs 1 _ rfl
      have k2 := hcs 2 _ rfl
      have k3 := hcs 3 _ rfl
      have k4 := hcs 4 _ rfl
      rw [Nat.add_zero] at k0
      have hi : IntKind.i64.wrap ((n : Int) + 1) = (n : Int) + 1 := IntWalk.i64_in _ (by have := HF.out.2.1.elems.1; omega)
      have i1 : decide ((n : Int) < (M.elems.length : Int)) = true := decide_eq_true (by omega)
      have i2 : (n : Int) < (M.elems.length : Int) := by omega
      have HE := Lib.hid (show elemsR M.elems (newI M ess) (n + 1) = elemR x n J by show (match elemsR M.elems (newI M ess) n, M.elems[n]? with | some J, some x => elemR x n J | _, _ => none) = _; rw [hJ, hx])
      have HJ := Lib.hid (elemsR_len hJ)
      have HX := Lib.hid (And.intro (List.mem_of_getElem? hx) hlt)
      have HO := Lib.hid (And.intro hov hiv)
      have H3 := Lib.hid (And.intro h3 (And.intro ro3 hk3))
      go_upto_region 8 with (fail)
      refine all_worldC (fun W' => Below wr.heap.size wr W' ∧ W'.cell? ⟨wr.heap.size, 0, none⟩ = some (.int .u8 x.mode) ∧ W'.cell? ⟨wr.heap.size, 2, none⟩ = some (.int .u32 x.table) ∧ W'.cell? ⟨wr.heap.size, 3, none⟩ = some (.slice oA x.off.length oc) ∧ W'.cell? ⟨wr.heap.size, 4, none⟩ = some (.slice iA x.init.length ic)) ⟨(Below.refl _ _).alloc (Nat.le_refl _) _, by simp, by simp, by simp, by simp⟩ ?_
      rintro w3 ⟨hb3, e0, e2, e3, e4⟩
      have HB3 := Lib.hid hb3
      have H4 := Lib.hid (h3.still hb3)
      have HEB := Lib.hid (show wr.heap.size < w3.heap.size from World.block_lt_of_cell? _ _ e0)
      generalize heB : wr.heap.size = eB at e0 e2 e3 e4 ⊢
      have HEBQ := Lib.hid heB
      -- the mark
      obtain ⟨evA, evn, evc, rfl, hv1, hv2, hv3, hv4⟩ := Row.rd (h3.si.sep.holds _ _ a7)
      clear hv4
      rw [bools_len, Nat.mul_one] at hv3
      have hevn : n < evn := by have := HJ.out.1; have : (newI M ess).els.length = M.elems.length := List.length_replicate; omega
      obtain ⟨vb, hvb⟩ : ∃ vb, J.els[n]? = some vb := ⟨_, List.getElem?_eq_getElem (by omega)⟩
      obtain ⟨evg, rfl, hcA⟩ := Row.cellAt (h3.si.sep.holds _ _ a7) n (.bool vb) (by simp [bools, hvb])
      clear hcA
      have hrow7 := H4.out.si.sep.holds _ _ a7
      obtain ⟨c17, z17⟩ := Row.cell hrow7 (by omega) n (.bool vb) (by simp [bools, hvb])
      obtain ⟨t1, t2⟩ := Row.set hrow7 n (by rw [bools_len]; omega) (.bool true)
      rw [show (bools J.els).set n (.bool true) = bools (J.els.set n true) by simp [bools, List.map_set]] at t1
      have HM4 := Lib.hid (H4.out.els a7 t1 t2)
      have i17 := (hb3.cell (World.block_lt_of_cell? _ _ (h3.si.sep.cell0 a1 17 (.slice (some ⟨evg, 0, none⟩) evn evc) (by rw [List.getElem?_append_right (by rw [a2.len]; omega), a2.len]; rfl)))).trans (h3.si.sep.cell0 a1 17 (.slice (some ⟨evg, 0, none⟩) evn evc) (by rw [List.getElem?_append_right (by rw [a2.len]; omega), a2.len]; rfl))
      have hevb : evg ≠ eB := by
        have : evg < wr.heap.size := Ck.lt (h3.si.sep.holds _ _ a7) (show rowBlock (.slice (some ⟨evg, 0, none⟩) evn evc) = some evg by simp [rowBlock]; omega)
        omega
      have i3 : (n : Int) < (evn : Int) := by omega
      have HA := Lib.hid (And.intro a1 (And.intro a2 a5))
      clear hvb h3 ro3 hk3 hb3 a1 a2 a3 a4 a5 a6 a7 a8 a1' ar hel hSg hov hiv hcs hx hJ hn hlt hmce hrow7 t1 t2 hv1 hv2 hv3 heB k0 k1 k2 k3 k4 q6 q8 q12
      by_cases hm1 : x.mode = 1
      · have m1 : (x.mode == 1) = true := by rw [hm1]; rfl
        have HR := Lib.hid (show elemR x n J = some J by unfold elemR; rw [if_pos hm1])
        clear hm1
        go_wp2
        go_roundw
        case rel => exact ⟨n + 1, HX.out.2, by go_num, J, L3, HE.out.trans HR.out, H4.out, H3.out.2.1.trans' (bro HB3.out H3.out.1.si.sep.lt), H3.out.2.2⟩
        case measure => (simp [intOf]; try omega)
      have m1 : (x.mode == 1) = false := beq_eq_false_iff_ne.2 hm1
      have HM1 := Lib.hid hm1
      clear hm1
      go_upto_region 10 with (fail)
      refine all_worldC (fun W' => (∃ L4, Sm W' S2 L4 u iB M mcl { J with els := J.els.set n true } ∧ (∀ q : Key, q.own ≠ some u → L4 q = L3 q) ∧ L4 (.tbs u) = L3 (.tbs u) ∧ (∀ k, L4 (.tab u k) = L3 (.tab u k)) ∧ L4 (.ins u) = L3 (.ins u)) ∧ Ro S2 w3 W' ∧ (∀ j v, w3.cell? ⟨eB, j, none⟩ = some v → W'.cell? ⟨eB, j, none⟩ = some v)) ⟨⟨_, HM4.out.1, fun q hq => upd_other _ _ (by rintro rfl; exact hq rfl), upd_other _ _ (by simp), fun k => upd_other _ _ (by simp), upd_other _ _ (by simp)⟩, HM4.out.2, fun j v hv => cell_away hv hevb⟩ ?_
      rintro w4 ⟨⟨L4, h4, hk4, ht4, hb4, hi4⟩, ro4, hc4⟩
      replace e0 := hc4 _ _ e0
      replace e2 := hc4 _ _ e2
      replace e3 := hc4 _ _ e3
      replace e4 := hc4 _ _ e4
      have H5 := Lib.hid (And.intro h4 (And.intro (H3.out.2.1.trans' ((bro HB3.out H3.out.1.si.sep.lt).trans' ro4)) (And.intro (fun q hq => (hk4 q hq).trans (H3.out.2.2 q hq) : ∀ q : Key, q.own ≠ some u → L4 q = L2 q) (And.intro ht4 (And.intro hb4 (And.intro hi4 (show eB < w4.heap.size from World.block_lt_of_cell? _ _ e0)))))))
      have HW4 := Lib.hid ((bro HB3.out H3.out.1.si.sep.lt).trans' ro4)
      clear h4 hk4 ht4 hb4 hi4 ro4 hc4 c17 z17 i17 hevb i3 HM4 hevn
      by_cases hm2 : x.mode = 2
      · have m2 : (x.mode == 2) = true := by rw [hm2]; rfl
        have HR := Lib.hid (show elemR x n J = some { J with els := J.els.set n true } by unfold elemR; rw [if_neg HM1.out, if_pos hm2])
        clear hm2
        go_wp2
        go_roundw
        case rel => exact ⟨n + 1, HX.out.2, by go_num, _, L4, HE.out.trans HR.out, H5.out.1, H5.out.2.1, H5.out.2.2.1⟩
        case measure => (simp [intOf]; try omega)
      have m2 : (x.mode == 2) = false := beq_eq_false_iff_ne.2 hm2
      -- the table
      obtain ⟨tk, htk⟩ : ∃ tk : Nat, x.table = tk := ⟨x.table.toNat, by have := (HF.out.2.1.elems.2 x HX.out.1).2.2.2.1; omega⟩
      have htl : tk < J.tabs.length := by
        have h1 := HF.out.2.2 x HX.out.1 HM1.out hm2
        have h2 := HJ.out.2.1
        have h3 : (newI M ess).tabs.length = M.tabs.length := by simp [newI, tabsC]
        rw [htk] at h1
        simp only [Int.toNat_natCast] at h1
        omega
      obtain ⟨t, ht⟩ : ∃ t, J.tabs[tk]? = some t := ⟨_, List.getElem?_eq_getElem htl⟩
      obtain ⟨raws, r1, r2, r3⟩ := HA.out.2.2
      obtain ⟨vt, hvt⟩ : ∃ vt, raws[tk]? = some vt := ⟨_, List.getElem?_eq_getElem (by omega)⟩
      have h5t : L4 (.tab u tk) = some (.rw 26 1 vt (ints .u64 t)) := (H5.out.2.2.2.2.1 tk).trans (r3 tk t vt ht hvt)
      have h5b : L4 (.tbs u) = some (.rw 57 1 tv raws) := H5.out.2.2.2.1.trans r2
      obtain ⟨TA, tn, tcap, rfl, ht1, ht2, ht3, ht4⟩ := Row.rd (H5.out.1.si.sep.holds _ _ h5t)
      clear ht4
      rw [ints_len, Nat.mul_one] at ht3
      obtain ⟨BA, bn, bcap, rfl, hbn1, hbn2, hbn3, hbn4⟩ := Row.rd (H5.out.1.si.sep.holds _ _ h5b)
      clear hbn4
      rw [Nat.mul_one] at hbn3
      obtain ⟨bg, rfl, cbt⟩ := Row.cellAt (H5.out.1.si.sep.holds _ _ h5b) tk _ hvt
      have i15 := H5.out.1.si.sep.cell0 (H5.out.2.2.2.2.2.1.trans HA.out.1) 15 (.slice (some ⟨bg, 0, none⟩) bn bcap) (by rw [List.getElem?_append_right (by rw [HA.out.2.1.len]; omega), HA.out.2.1.len]; rfl)
      have HV := Lib.hid (worth_c w4 S2 _ x.off (HO.out.1.mono HW4.out (fun _ h => h) (fun _ _ hh => hh.mono HW4.out (fun _ h => h))) (HF.out.2.1.elems.2 x HX.out.1).2.2.1)
      have hvr := valueC_range (HF.out.2.1.elems.2 x HX.out.1).2.2.1
      have HLow := Lib.hid (low_c (valueC x.off) hvr.1 hvr.2)
      obtain ⟨d, hd⟩ : ∃ d : Nat, valueC x.off % 4294967296 = d := ⟨(valueC x.off % 4294967296).toNat, by omega⟩
      have hd2 : d < 4294967296 := by omega
      have HER := Lib.hid (show elemR x n J = if d + x.init.length ≤ tn then some { J with els := J.els.set n true, tabs := J.tabs.set tk (laid t d (x.init.map valueC)) } else none by
        unfold elemR
        rw [if_neg HM1.out, if_neg hm2, hd, htk]
        simp only [Int.toNat_natCast, List.getD_eq_getElem?_getD, ht, Option.getD_some, ht3])
      generalize hval : valueC x.off = val at HV HLow hvr hd
      rw [htk] at e2
      have j1 : (tk : Int) < (bn : Int) := by have := (List.getElem?_eq_some_iff.1 hvt).1; omega
      have j2 : tk < bn := by have := (List.getElem?_eq_some_iff.1 hvt).1; omega
      have hil : x.init.length ≤ 1000 := (HF.out.2.1.elems.2 x HX.out.1).1
      have c3 : IntKind.u64.wrap (x.init.length : Int) = (x.init.length : Int) := IntWalk.u64_in _ (by omega)
      have HFit := Lib.hid (fun w' => rfits_c tn d x.init.length (by simp only [maxLen] at ht2; omega) (by omega) (by omega) w')
      have HTE := Lib.hid (show ∀ b, rowBlock (.slice TA tn tcap) = some b → b ≠ eB from fun b hb => by
        have := Ck.lt (H3.out.1.si.sep.holds _ _ (r3 tk t _ ht hvt)) hb
        have := HEBQ.out
        omega)
      have HT := Lib.hid (And.intro ht (And.intro h5t (And.intro h5b (And.intro ht1 (And.intro ht2 (And.intro ht3 (And.intro hil hd2)))))))
      clear hm2 htl ht r1 r2 r3 hvt h5t h5b ht1 ht2 ht3 hbn1 hbn2 hbn3 hvr hd2 hil hval htk
      go_wp2_with fail
      refine HV.out.mono ?_
      rintro e w5 ⟨rfl, rfl⟩
      go_wp2_with fail
      refine (HLow.out _).mono ?_
      rintro e w6 ⟨rfl, rfl⟩
      rw [hd]
      go_wp2_with fail
      go_quiet (fail)
      refine all_worldC (fun W' => Below w6.heap.size w6 W') ⟨rfl, rfl, rfl, Nat.le_refl _, fun _ _ => rfl⟩ ?_
      rintro w7 hb7
      have e4 := (hb7.cell (World.block_lt_of_cell? _ _ e4)).trans e4
      have H7 := Lib.hid (And.intro (H5.out.1.still hb7) (bro hb7 H5.out.1.si.sep.lt))
      have q12 := (HP.out w7 (H5.out.2.1.trans' H7.out.2)).2.2
      clear hb7 cbt i15 j1 j2 e0 e2 e3
      by_cases hfit : d + x.init.length ≤ tn
      rotate_left
      · rw [decide_eq_false hfit] at HFit
        have HER2 := Lib.hid (HE.out.trans (HER.out.trans (if_neg hfit)))
        have HLT := Lib.hid HX.out.2
        clear hfit
        go_wp2_with (refine (HFit.out _).mono ?_; rintro e w8 ⟨rfl, rfl⟩)
        go_ret2
        have hnone : ∀ k, n + 1 ≤ k → elemsR M.elems (newI M ess) k = none := by
          intro k hk
          induction k with
          | zero => omega
          | succ k ih =>
            by_cases e : n = k
            · subst e; exact HER2.out
            · show (match elemsR M.elems (newI M ess) k, M.elems[k]? with | some J, some x => elemR x k J | _, _ => none) = none
              rw [ih (by omega)]
        have : makeI M ess = none := by
          unfold makeI
          rw [hnone _ (by have := HLT.out; omega)]
        rw [this]
        exact ⟨rfl, HRO2.out.1.trans (H5.out.2.1.trans' H7.out.2) HRO2.out.2.1⟩
      rw [decide_eq_true hfit] at HFit
      have HER2 := Lib.hid (HE.out.trans (HER.out.trans (if_pos hfit)))
      have HFT := Lib.hid hfit
      clear hfit
      go_wp2_with (refine (HFit.out _).mono ?_; rintro e w8 ⟨rfl, rfl⟩)
      have H8 := Lib.hid (show ∃ L6, Sm w8 S2 L6 u iB M mcl { J with els := J.els.set n true, tabs := J.tabs.set tk (laid t d ((x.init.take 0).map valueC)) } ∧ L6 (.tab u tk) = some (.rw 26 1 (.slice TA tn tcap) (ints .u64 (laid t d ((x.init.take 0).map valueC)))) ∧ Ro S2 wr w8 ∧ (∀ q : Key, q.own ≠ some u → L6 q = L2 q) ∧ w8.cell? ⟨eB, 4, none⟩ = some (.slice iA x.init.length ic) from by
        refine ⟨L4, ?_, ?_, HW4.out.trans' H7.out.2, H5.out.2.2.1, e4⟩
        · rw [List.take_zero, List.map_nil, laid_nil, show J.tabs.set tk t = J.tabs from by
            have := HT.out.1
            obtain ⟨h1, h2⟩ := List.getElem?_eq_some_iff.1 this
            rw [← h2, List.set_getElem_self]]
          exact H7.out.1
        · rw [List.take_zero, List.map_nil, laid_nil]
          exact HT.out.2.1)
      clear e4 q12
      generalize hwr : wr = wo at *
      clear hwr
      go_loopw [10] (fun i wr2 => ∃ m : Nat, m ≤ x.init.length ∧ i = .int .i64 m ∧ ∃ L6, Sm wr2 S2 L6 u iB M mcl { J with els := J.els.set n true, tabs := J.tabs.set tk (laid t d ((x.init.take m).map valueC)) } ∧ L6 (.tab u tk) = some (.rw 26 1 (.slice TA tn tcap) (ints .u64 (laid t d ((x.init.take m).map valueC)))) ∧ Ro S2 wo wr2 ∧ (∀ q : Key, q.own ≠ some u → L6 q = L2 q) ∧ wr2.cell? ⟨eB, 4, none⟩ = some (.slice iA x.init.length ic)) (fun i _ => x.init.length - (intOf i).toNat)
      case atStart => exact ⟨0, Nat.zero_le _, rfl, H8.out⟩
      case round =>
        obtain ⟨m, hm, rfl, L6, h6, ht6, ro6, hk6, e4⟩ := hrel
        have hin : (x.init.length : Int) = (x.init.length : Int) := rfl
        by_cases hlm : m < x.init.length
        · have hy : x.init[m]? = some x.init[m] := List.getElem?_eq_getElem hlm
          generalize x.init[m] = y at hy
          obtain ⟨ig, io, cs2, rfl, hSi, y0, ⟨yv, rfl, hyv⟩, hcs2⟩ := (HO.out.2.mono (S' := S2) (R' := fun (l : List Ins) cs => ∃ v, cs = [v] ∧ RdL wr S2 6 (InsR wr S2) v l) ro6 (fun _ h => h) (fun _ _ ⟨v, e, hh⟩ => ⟨v, e, hh.mono ro6 (fun _ h => h) (fun _ _ hh => hh.mono ro6 (fun _ h => h))⟩)).get m y hy
          obtain ⟨yA, yc, rfl, y1, y2, y3, y4⟩ := id hyv
          clear y0 y1 y2 y3 y4
          have ky := hcs2 0 _ rfl
          rw [Nat.mul_one, Nat.add_zero] at ky
          have HVy := Lib.hid (worth_c _ S2 _ y hyv ((HF.out.2.1.elems.2 x HX.out.1).2.1 y (List.mem_of_getElem? hy)))
          have hml : m < (x.init.map valueC).length := by simpa using hlm
          have hys : ((x.init.take m).map valueC).length = m := by simp; omega
          have hll := HT.out.2.2.2.2.2.1
          have hfit := HFT.out
          have hlen : (laid t d ((x.init.take m).map valueC)).length = tn := by rw [laid_length (by rw [hys]; omega)]; omega
          obtain ⟨dm, hdm⟩ : ∃ dm : Nat, d + m = dm := ⟨_, rfl⟩
          have hdl : dm < tn := by omega
          obtain ⟨vb, hvb⟩ : ∃ vb, (laid t d ((x.init.take m).map valueC))[dm]? = some vb := ⟨_, List.getElem?_eq_getElem (by omega)⟩
          have hrow6 := h6.si.sep.holds _ _ ht6
          obtain ⟨tgt, rfl, hcA⟩ := Row.cellAt hrow6 dm (.int .u64 vb) (ints_get _ _ _ _ hvb)
          clear hcA
          have htc : 0 < tcap := by have := HT.out.2.2.2.1; omega
          obtain ⟨ct, zt⟩ := Row.cell hrow6 htc dm (.int .u64 vb) (ints_get _ _ _ _ hvb)
          obtain ⟨t1, t2⟩ := Row.set hrow6 dm (by rw [ints_len]; omega) (.int .u64 (valueC y))
          rw [show (ints .u64 (laid t d ((x.init.take m).map valueC))).set dm (.int .u64 (valueC y)) = ints .u64 (laid t d ((x.init.take (m + 1)).map valueC)) by
            rw [List.take_add_one, hy, List.map_append]
            have := laid_snoc (l := t) (ys := (x.init.take m).map valueC) (d := d) (v := valueC y) (by rw [hys]; omega)
            rw [hys, hdm] at this
            simp only [Option.toList_some, List.map_cons, List.map_nil]
            rw [← this]
            simp [ints, List.map_set]] at t1
          have HM6 := Lib.hid (h6.tab (k := tk) (t := laid t d ((x.init.take m).map valueC)) (by
            show (J.tabs.set tk _)[tk]? = _
            rw [List.getElem?_set, if_pos rfl, if_pos (List.getElem?_eq_some_iff.1 HT.out.1).1]) ht6 t1 t2)
          have hne : tgt ≠ eB := HTE.out tgt (by simp [rowBlock]; omega)
          have HR6 := Lib.hid (And.intro ro6 (And.intro hk6 (And.intro hlm (cell_away (v := .int .u64 (valueC y)) (i := dm) e4 hne))))
          have HY := Lib.hid hy
          have u1 : IntKind.u64.wrap (m : Int) = m := IntWalk.u64_in _ (by have := HT.out.2.2.2.2.2.2.1; omega)
          have u2 : (d : Int) + (m : Int) = (dm : Int) := by omega
          have u3 : IntKind.u64.wrap (dm : Int) = dm := IntWalk.u64_in _ (by have := HT.out.2.2.2.2.2.2.1; have := HT.out.2.2.2.2.2.2.2; omega)
          have u4 : (dm : Int) < (tn : Int) := by omega
          have hi2 : IntKind.i64.wrap ((m : Int) + 1) = (m : Int) + 1 := IntWalk.i64_in _ (by have := HT.out.2.2.2.2.2.2.1; omega)
          have v1 : decide ((m : Int) < (x.init.length : Int)) = true := decide_eq_true (by omega)
          have v2 : (m : Int) < (x.init.length : Int) := by omega
          clear h6 ht6 ro6 hk6 hrow6 t1 t2 hvb hml hys hlen hdl htc hy hyv hcs2 hSi hm hlm hll hfit hdm hne
          go_wp2_with (refine HVy.out.mono ?_; rintro e w9 ⟨rfl, rfl⟩)
          go_roundw
          case rel =>
            obtain ⟨hs6, hr6⟩ := HM6.out
            refine ⟨m + 1, HR6.out.2.2.1, by go_num, _, ?_, upd_same _ _ _, HR6.out.1.trans' hr6, fun q hq => (upd_other _ _ (by rintro rfl; exact hq rfl)).trans (HR6.out.2.1 q hq), HR6.out.2.2.2⟩
            have := hs6
            rw [show ({ ({ J with els := J.els.set n true, tabs := J.tabs.set tk (laid t d ((x.init.take m).map valueC)) } : In) with tabs := (J.tabs.set tk (laid t d ((x.init.take m).map valueC))).set tk (laid t d ((x.init.take (m + 1)).map valueC)) } : In) = { J with els := J.els.set n true, tabs := J.tabs.set tk (laid t d ((x.init.take (m + 1)).map valueC)) } by rw [List.set_set]] at this
            exact this
          case measure => (simp [intOf]; try omega)
        · obtain rfl : m = x.init.length := by omega
          have v1 : decide ((x.init.length : Int) < (x.init.length : Int)) = false := decide_eq_false (by omega)
          rw [List.take_length] at h6
          have HR6 := Lib.hid (And.intro h6 (And.intro ro6 hk6))
          clear h6 ht6 ro6 hk6 hm hlm
          go_wp2
          go_roundw
          case rel => exact ⟨n + 1, HX.out.2, by go_num, _, L6, HER2.out, HR6.out.1, H3.out.2.1.trans' HR6.out.2.1, HR6.out.2.2⟩
          case measure => (simp [intOf]; try omega)
    · obtain rfl : n = M.elems.length := by omega
      have hd0 : decide ((M.elems.length : Int) < (M.elems.length : Int)) = false := decide_eq_false (by omega)
      have HJ0 := Lib.hid hJ
      have H3 := Lib.hid (And.intro h3 (And.intro ro3 hk3))
      clear hJ h3 ro3 hk3 hlt hn
      go_wp2_with fail
      generalize hwr : wr = w0 at *
      clear hwr q6 q8 q12 hd0
      go_loopw [11] (fun i wr => ∃ n : Nat, n ≤ M.datas.length ∧ i = .int .i64 n ∧ ∃ K L', datasR M.datas J n = some K ∧ Sm wr S2 L' u iB M mcl K ∧ Ro S2 w2 wr ∧ ∀ q : Key, q.own ≠ some u → L' q = L2 q) (fun i _ => M.datas.length - (intOf i).toNat)
      case atStart => exact ⟨0, Nat.zero_le _, rfl, J, L3, rfl, H3.out.1, H3.out.2.1, H3.out.2.2⟩
      case round =>
        obtain ⟨n, hn, rfl, K, L5, hK, h5, ro5, hk5⟩ := hrel
        obtain ⟨q6, q8, q12⟩ := HP.out wr ro5
        by_cases hlt : n < M.datas.length
        · have hx : M.datas[n]? = some M.datas[n] := List.getElem?_eq_getElem hlt
          generalize M.datas[n] = x at hx
          obtain ⟨mc9, bv9, mv, tv, gv9, ev9, dv, a1, a2, a3, a4, a5, a6, a7, a8⟩ := id h5.si.ins
          obtain ⟨r9, a1', ar⟩ := h5.ins
          obtain ⟨dlv, hdlv, hdl⟩ := a2.datas
          have hmce : mc9 = mcl := by
            rw [a1] at a1'
            have e1 := a1'
            injection e1 with e1
            injection e1 with _ _ e1
            exact (List.append_inj e1 (by rw [a2.len, ← HML.out]; rfl)).1
          rw [hmce, ← HML.out] at hdlv
          cases hdlv
          obtain ⟨g, o, cs9, rfl, hSg, z0, ⟨ov, bv, rfl, hov, hbv⟩, hcs⟩ := hdl.get n x hx
          obtain ⟨oA, oc, rfl, z1, z2, z3, z4⟩ := id hov
          obtain ⟨bA9, bc9, rfl, z5, z6, z7, z8⟩ := id hbv
          clear z0 z1 z2 z3 z4 z5 z6 z7 z8
          have k0 := hcs 0 _ rfl
          have k1 := hcs 1 _ rfl
          have k2 := hcs 2 _ rfl
          rw [Nat.add_zero] at k0
          have hi : IntKind.i64.wrap ((n : Int) + 1) = (n : Int) + 1 := IntWalk.i64_in _ (by have := HF.out.2.1.datas.1; omega)
          have i1 : decide ((n : Int) < (M.datas.length : Int)) = true := decide_eq_true (by omega)
          have i2 : (n : Int) < (M.datas.length : Int) := by omega
          have HE := Lib.hid (show datasR M.datas J (n + 1) = dataR x n K by show (match datasR M.datas J n, M.datas[n]? with | some J, some x => dataR x n J | _, _ => none) = _; rw [hK, hx])
          have HKL := Lib.hid (datasR_len hK)
          have HX := Lib.hid (And.intro (List.mem_of_getElem? hx) hlt)
          have HO := Lib.hid (And.intro hov hbv)
          have H5 := Lib.hid (And.intro h5 (And.intro ro5 hk5))
          go_upto_region 23 with (fail)
          refine all_worldC (fun W' => Below wr.heap.size wr W' ∧ W'.cell? ⟨wr.heap.size, 0, none⟩ = some (.int .u8 x.mode) ∧ W'.cell? ⟨wr.heap.size, 1, none⟩ = some (.slice oA x.off.length oc) ∧ W'.cell? ⟨wr.heap.size, 2, none⟩ = some (.slice bA9 x.bytes.length bc9)) ⟨(Below.refl _ _).alloc (Nat.le_refl _) _, by simp, by simp, by simp⟩ ?_
          rintro w3 ⟨hb3, e0, e1, e2⟩
          have HB3 := Lib.hid hb3
          have H6 := Lib.hid (h5.still hb3)
          generalize heB : wr.heap.size = eB at e0 e1 e2 ⊢
          have HEBQ := Lib.hid heB
          -- the mark
          obtain ⟨evA, evn, evc, rfl, hv1, hv2, hv3, hv4⟩ := Row.rd (h5.si.sep.holds _ _ a8)
          clear hv4
          rw [bools_len, Nat.mul_one] at hv3
          have hevn : n < evn := by
            have h1 := HKL.out
            have h2 := (elemsR_len HJ0.out).2.2.1
            have h3 : (newI M ess).das.length = M.datas.length := List.length_replicate
            rw [h2] at h1
            omega
          obtain ⟨vb, hvb⟩ : ∃ vb, K.das[n]? = some vb := ⟨_, List.getElem?_eq_getElem (by omega)⟩
          obtain ⟨evg, rfl, hcA⟩ := Row.cellAt (h5.si.sep.holds _ _ a8) n (.bool vb) (by simp [bools, hvb])
          clear hcA
          have hrow8 := H6.out.si.sep.holds _ _ a8
          obtain ⟨c18, z18⟩ := Row.cell hrow8 (by omega) n (.bool vb) (by simp [bools, hvb])
          obtain ⟨t1, t2⟩ := Row.set hrow8 n (by rw [bools_len]; omega) (.bool true)
          rw [show (bools K.das).set n (.bool true) = bools (K.das.set n true) by simp [bools, List.map_set]] at t1
          have HM6 := Lib.hid (H6.out.das a8 t1 t2)
          have i18 := (hb3.cell (World.block_lt_of_cell? _ _ (h5.si.sep.cell0 a1 18 (.slice (some ⟨evg, 0, none⟩) evn evc) (by rw [List.getElem?_append_right (by rw [a2.len]; omega), a2.len]; rfl)))).trans (h5.si.sep.cell0 a1 18 (.slice (some ⟨evg, 0, none⟩) evn evc) (by rw [List.getElem?_append_right (by rw [a2.len]; omega), a2.len]; rfl))
          have hevb : evg ≠ eB := by
            have : evg < wr.heap.size := Ck.lt (h5.si.sep.holds _ _ a8) (show rowBlock (.slice (some ⟨evg, 0, none⟩) evn evc) = some evg by simp [rowBlock]; omega)
            omega
          have i3 : (n : Int) < (evn : Int) := by omega
          -- the memory
          obtain ⟨mA9, mn, mcap, rfl, hm1, hm2, hm3, hm4⟩ := Row.rd (h5.si.sep.holds _ _ a4)
          clear hm4
          rw [ints_len, Nat.mul_one] at hm3
          have HMT := Lib.hid (And.intro hm1 (And.intro hm2 hm3))
          have HMB := Lib.hid (show ∀ b, rowBlock (.slice mA9 mn mcap) = some b → b ≠ eB from fun b hb => by
            have := Ck.lt (h5.si.sep.holds _ _ a4) hb
            have := HEBQ.out
            omega)
          have HA := Lib.hid (And.intro a1 (And.intro a2 a4))
          clear hvb h5 ro5 hk5 hb3 a1 a2 a3 a4 a5 a6 a7 a8 a1' ar hdl hSg hov hbv hcs hx hK hn hlt hmce hrow8 t1 t2 hv1 hv2 hv3 heB k0 k1 k2 q6 q8 q12 hm1 hm2 hm3
          by_cases hm1 : x.mode = 1
          · have m1 : (x.mode == 1) = true := by rw [hm1]; rfl
            have HR := Lib.hid (show dataR x n K = some K by unfold dataR; rw [if_pos hm1])
            clear hm1
            go_wp2
            go_roundw
            case rel => exact ⟨n + 1, HX.out.2, by go_num, K, L5, HE.out.trans HR.out, H6.out, H5.out.2.1.trans' (bro HB3.out H5.out.1.si.sep.lt), H5.out.2.2⟩
            case measure => (simp [intOf]; try omega)
          have m1 : (x.mode == 1) = false := beq_eq_false_iff_ne.2 hm1
          have HM1 := Lib.hid hm1
          clear hm1
          go_upto_region 25 with (fail)
          refine all_worldC (fun W' => (∃ L4, Sm W' S2 L4 u iB M mcl { K with das := K.das.set n true } ∧ (∀ q : Key, q.own ≠ some u → L4 q = L5 q) ∧ L4 (.mem u) = L5 (.mem u) ∧ L4 (.ins u) = L5 (.ins u)) ∧ Ro S2 w3 W' ∧ (∀ j v, w3.cell? ⟨eB, j, none⟩ = some v → W'.cell? ⟨eB, j, none⟩ = some v)) ⟨⟨_, HM6.out.1, fun q hq => upd_other _ _ (by rintro rfl; exact hq rfl), upd_other _ _ (by simp), upd_other _ _ (by simp)⟩, HM6.out.2, fun j v hv => cell_away hv hevb⟩ ?_
          rintro w4 ⟨⟨L4, h4, hk4, ht4, hi4⟩, ro4, hc4⟩
          replace e1 := hc4 _ _ e1
          replace e2 := hc4 _ _ e2
          have H7 := Lib.hid (And.intro h4 (And.intro (H5.out.2.1.trans' ((bro HB3.out H5.out.1.si.sep.lt).trans' ro4)) (And.intro (fun q hq => (hk4 q hq).trans (H5.out.2.2 q hq) : ∀ q : Key, q.own ≠ some u → L4 q = L2 q) (And.intro ht4 hi4))))
          have HW4 := Lib.hid ((bro HB3.out H5.out.1.si.sep.lt).trans' ro4)
          have a4' : L4 (.mem u) = some (.rw 5 1 (.slice mA9 mn mcap) (ints .u8 K.mem)) := ht4.trans HA.out.2.2
          have i14 := h4.si.sep.cell0 (hi4.trans HA.out.1) 14 (.slice mA9 mn mcap) (by rw [List.getElem?_append_right (by rw [HA.out.2.1.len]; omega), HA.out.2.1.len]; rfl)
          have HA4 := Lib.hid a4'
          clear h4 hk4 ht4 hi4 ro4 hc4 c18 z18 i18 hevb i3 HM6 hevn a4' e0
          have HV := Lib.hid (worth_c w4 S2 _ x.off (HO.out.1.mono HW4.out (fun _ h => h) (fun _ _ hh => hh.mono HW4.out (fun _ h => h))) (HF.out.2.1.datas.2 x HX.out.1).2.2)
          have hvr := valueC_range (HF.out.2.1.datas.2 x HX.out.1).2.2
          have HLow := Lib.hid (low_c (valueC x.off) hvr.1 hvr.2)
          obtain ⟨d, hd⟩ : ∃ d : Nat, valueC x.off % 4294967296 = d := ⟨(valueC x.off % 4294967296).toNat, by omega⟩
          have hd2 : d < 4294967296 := by omega
          have HER := Lib.hid (show dataR x n K = if d + x.bytes.length ≤ mn then some { K with das := K.das.set n true, mem := laid K.mem d x.bytes } else none by
            unfold dataR
            rw [if_neg HM1.out, hd, HMT.out.2.2]
            simp)
          generalize hval : valueC x.off = val at HV HLow hvr hd
          have hil : x.bytes.length ≤ 100000 := (HF.out.2.1.datas.2 x HX.out.1).1
          have c3 : IntKind.u64.wrap (x.bytes.length : Int) = (x.bytes.length : Int) := IntWalk.u64_in _ (by omega)
          have HFit := Lib.hid (fun w' => rfits_c mn d x.bytes.length (by have h1 := HMT.out.1; have h2 := HMT.out.2.1; simp only [maxLen] at h2; omega) (by omega) (by omega) w')
          have HT := Lib.hid (And.intro hil hd2)
          clear hvr hd2 hil hval
          go_wp2_with fail
          refine HV.out.mono ?_
          rintro e w5 ⟨rfl, rfl⟩
          go_wp2_with fail
          refine (HLow.out _).mono ?_
          rintro e w6 ⟨rfl, rfl⟩
          rw [hd]
          by_cases hfit : d + x.bytes.length ≤ mn
          rotate_left
          · rw [decide_eq_false hfit] at HFit
            have HER2 := Lib.hid (HE.out.trans (HER.out.trans (if_neg hfit)))
            have HLT := Lib.hid HX.out.2
            clear hfit
            go_wp2_with fail
            go_quiet ((go_at_call 36; (with_reducible exact Calls.quiet_of_same (HFit.out _))))
            refine all_worldC (fun W' => Below w6.heap.size w6 W') ⟨rfl, rfl, rfl, Nat.le_refl _, fun _ _ => rfl⟩ ?_
            rintro w7 hb7
            have HB7 := Lib.hid hb7
            clear hb7
            go_wp2
            go_ret2
            have hnone : ∀ k, n + 1 ≤ k → datasR M.datas J k = none := by
              intro k hk
              induction k with
              | zero => omega
              | succ k ih =>
                by_cases e : n = k
                · subst e; exact HER2.out
                · show (match datasR M.datas J k, M.datas[k]? with | some J, some x => dataR x k J | _, _ => none) = none
                  rw [ih (by omega)]
            have : makeI M ess = none := by
              unfold makeI
              rw [HJ0.out]
              exact hnone _ (by have := HLT.out; omega)
            rw [this]
            exact ⟨rfl, HRO2.out.1.trans (H7.out.2.1.trans' (bro HB7.out H7.out.1.si.sep.lt)) HRO2.out.2.1⟩
          rw [decide_eq_true hfit] at HFit
          have HER2 := Lib.hid (HE.out.trans (HER.out.trans (if_pos hfit)))
          have HFT := Lib.hid hfit
          clear hfit
          go_wp2_with fail
          go_quiet ((go_at_call 36; (with_reducible exact Calls.quiet_of_same (HFit.out _))))
          refine all_worldC (fun W' => Below w6.heap.size w6 W') ⟨rfl, rfl, rfl, Nat.le_refl _, fun _ _ => rfl⟩ ?_
          rintro w7 hb7
          have HB7 := Lib.hid hb7
          replace e2 := (hb7.cell (World.block_lt_of_cell? _ _ e2)).trans e2
          have H8 := Lib.hid (show ∃ L6, Sm w7 S2 L6 u iB M mcl { K with das := K.das.set n true, mem := laid K.mem d (x.bytes.take 0) } ∧ L6 (.mem u) = some (.rw 5 1 (.slice mA9 mn mcap) (ints .u8 (laid K.mem d (x.bytes.take 0)))) ∧ L6 (.ins u) = L5 (.ins u) ∧ Ro S2 wr w7 ∧ (∀ q : Key, q.own ≠ some u → L6 q = L2 q) ∧ w7.cell? ⟨eB, 2, none⟩ = some (.slice bA9 x.bytes.length bc9) from by
            refine ⟨L4, ?_, ?_, H7.out.2.2.2.2, HW4.out.trans' (bro hb7 H7.out.1.si.sep.lt), H7.out.2.2.1, e2⟩
            · rw [List.take_zero, laid_nil]
              exact H7.out.1.still hb7
            · rw [List.take_zero, laid_nil]
              exact HA4.out)
          clear e1 e2 i14 hb7
          go_wp2_with fail
          generalize hwr : wr = wo at *
          clear hwr
          go_loopw [14] (fun i wr2 => ∃ m : Nat, m ≤ x.bytes.length ∧ i = .int .i64 m ∧ ∃ L6, Sm wr2 S2 L6 u iB M mcl { K with das := K.das.set n true, mem := laid K.mem d (x.bytes.take m) } ∧ L6 (.mem u) = some (.rw 5 1 (.slice mA9 mn mcap) (ints .u8 (laid K.mem d (x.bytes.take m)))) ∧ L6 (.ins u) = L5 (.ins u) ∧ Ro S2 wo wr2 ∧ (∀ q : Key, q.own ≠ some u → L6 q = L2 q) ∧ wr2.cell? ⟨eB, 2, none⟩ = some (.slice bA9 x.bytes.length bc9)) (fun i _ => x.bytes.length - (intOf i).toNat)
          case atStart => exact ⟨0, Nat.zero_le _, rfl, H8.out⟩
          case round =>
            obtain ⟨m, hm, rfl, L6, h6, ht6, hi6, ro6, hk6, e2⟩ := hrel
            by_cases hlm : m < x.bytes.length
            · have hy : x.bytes[m]? = some x.bytes[m] := List.getElem?_eq_getElem hlm
              generalize x.bytes[m] = y at hy
              obtain ⟨ig, io, cs2, rfl, hSi, y0, rfl, hcs2⟩ := (HO.out.2.mono (S' := S2) ro6 (fun _ h => h) (fun _ _ h => h)).get m y hy
              clear y0
              have ky := hcs2 0 _ rfl
              rw [Nat.mul_one, Nat.add_zero] at ky
              have hys : (x.bytes.take m).length = m := by rw [List.length_take]; omega
              have hll := HMT.out.2.2
              have hfit := HFT.out
              have hlen : (laid K.mem d (x.bytes.take m)).length = mn := by rw [laid_length (by rw [hys]; omega)]; omega
              obtain ⟨dm, hdm⟩ : ∃ dm : Nat, d + m = dm := ⟨_, rfl⟩
              have hdl : dm < mn := by omega
              obtain ⟨vb, hvb⟩ : ∃ vb, (laid K.mem d (x.bytes.take m))[dm]? = some vb := ⟨_, List.getElem?_eq_getElem (by omega)⟩
              have hrow6 := h6.si.sep.holds _ _ ht6
              obtain ⟨tgt, rfl, hcA⟩ := Row.cellAt hrow6 dm (.int .u8 vb) (ints_get _ _ _ _ hvb)
              clear hcA
              have htc : 0 < mcap := by have := HMT.out.1; omega
              obtain ⟨ct, zt⟩ := Row.cell hrow6 htc dm (.int .u8 vb) (ints_get _ _ _ _ hvb)
              obtain ⟨t1, t2⟩ := Row.set hrow6 dm (by rw [ints_len]; omega) (.int .u8 y)
              rw [show (ints .u8 (laid K.mem d (x.bytes.take m))).set dm (.int .u8 y) = ints .u8 (laid K.mem d (x.bytes.take (m + 1))) by
                rw [List.take_add_one, hy]
                have := laid_snoc (l := K.mem) (ys := x.bytes.take m) (d := d) (v := y) (by rw [hys]; omega)
                rw [hys, hdm] at this
                simp only [Option.toList_some]
                rw [← this]
                simp [ints, List.map_set]] at t1
              have HM6 := Lib.hid (h6.mem ht6 t1 t2)
              have hne : tgt ≠ eB := HMB.out tgt (by simp [rowBlock]; omega)
              have i14 := h6.si.sep.cell0 (hi6.trans HA.out.1) 14 (.slice (some ⟨tgt, 0, none⟩) mn mcap) (by rw [List.getElem?_append_right (by rw [HA.out.2.1.len]; omega), HA.out.2.1.len]; rfl)
              have HR6 := Lib.hid (And.intro ro6 (And.intro hk6 (And.intro hlm (And.intro hi6 (cell_away (v := .int .u8 y) (i := dm) e2 hne)))))
              have HY := Lib.hid hy
              have u1 : IntKind.u64.wrap (m : Int) = m := IntWalk.u64_in _ (by have := HT.out.1; omega)
              have u2 : (d : Int) + (m : Int) = (dm : Int) := by omega
              have u3 : IntKind.u64.wrap (dm : Int) = dm := IntWalk.u64_in _ (by have := HT.out.1; have := HT.out.2; omega)
              have u4 : (dm : Int) < (mn : Int) := by omega
              have hi2 : IntKind.i64.wrap ((m : Int) + 1) = (m : Int) + 1 := IntWalk.i64_in _ (by have := HT.out.1; omega)
              have v1 : decide ((m : Int) < (x.bytes.length : Int)) = true := decide_eq_true (by omega)
              have v2 : (m : Int) < (x.bytes.length : Int) := by omega
              clear h6 ht6 hi6 ro6 hk6 hrow6 t1 t2 hvb hys hlen hdl htc hy hcs2 hSi hm hlm hll hfit hdm hne
              go_wp2_with fail
              refine wp_region_z (fun w' => w'.cell? ⟨iB, 14, none⟩ = some (.slice (some ⟨tgt, 0, none⟩) mn mcap) ∧ w'.cell? ⟨eB, 2, none⟩ = some (.slice (some ⟨ig, io, none⟩) x.bytes.length bc9) ∧ w'.cell? ⟨ig, io + m, none⟩ = some (.int .u8 y)) (fun j => j == 14) (by kernel_rfl) ?_ (fun hHeld => ?_)
              · exact ⟨i14, e2, ky⟩
              (refine wpZ_take (i := 0) (oi := ⟨some 132, .move (.tmp 4), 53, _, _, none⟩) (v := ?_) rfl (by kernel_rfl) (fun _ _ _ h => h) (by assumption) (Or.inl ⟨by rfl, ?_⟩) ?_; rotate_left 1; · ((intro w hSw; (try dsimp only at hSw); go_split_ands; go_simp) <;> (try with_reducible rfl)))
              try simp only [Act.put, List.setIfInBounds_toArray, List.set_cons_zero, List.set_cons_succ]
              (refine wpZ_take (i := 1) (oi := ⟨some 133, .nilCheck (.tmp 132), 0, _, _, none⟩) (v := ?_) rfl (by kernel_rfl) (fun _ _ _ h => h) (by assumption) (Or.inl ⟨by rfl, ?_⟩) ?_; rotate_left 1; · ((intro w hSw; (try dsimp only at hSw); go_split_ands; go_simp) <;> (try with_reducible rfl)))
              try simp only [Act.put, List.setIfInBounds_toArray, List.set_cons_zero, List.set_cons_succ]
              (refine wpZ_take (i := 2) (oi := ⟨some 134, .fieldAddr 67 (.tmp 133) 2, 0, _, _, none⟩) (v := ?_) rfl (by kernel_rfl) (fun _ _ _ h => h) (by assumption) (Or.inl ⟨by rfl, ?_⟩) ?_; rotate_left 1; · ((intro w hSw; (try dsimp only at hSw); go_split_ands; go_simp) <;> (try with_reducible rfl)))
              try simp only [Act.put, List.setIfInBounds_toArray, List.set_cons_zero, List.set_cons_succ]
              (refine wpZ_take (i := 3) (oi := ⟨some 135, .load 34 (.tmp 134), 34, _, _, none⟩) (v := ?_) rfl (by kernel_rfl) (fun _ _ _ h => h) (by assumption) (Or.inl ⟨by rfl, ?_⟩) ?_; rotate_left 1; · ((intro w hSw; (try dsimp only at hSw); go_split_ands; go_simp) <;> (try with_reducible rfl)))
              try simp only [Act.put, List.setIfInBounds_toArray, List.set_cons_zero, List.set_cons_succ]
              (refine wpZ_take (i := 4) (oi := ⟨some 136, .move (.tmp 13), 26, _, _, none⟩) (v := ?_) rfl (by kernel_rfl) (fun _ _ _ h => h) (by assumption) (Or.inl ⟨by rfl, ?_⟩) ?_; rotate_left 1; · ((intro w hSw; (try dsimp only at hSw); go_split_ands; go_simp) <;> (try with_reducible rfl)))
              try simp only [Act.put, List.setIfInBounds_toArray, List.set_cons_zero, List.set_cons_succ]
              (refine wpZ_take (i := 5) (oi := ⟨some 137, .move (.tmp 14), 3, _, _, none⟩) (v := ?_) rfl (by kernel_rfl) (fun _ _ _ h => h) (by assumption) (Or.inl ⟨by rfl, ?_⟩) ?_; rotate_left 1; · ((intro w hSw; (try dsimp only at hSw); go_split_ands; go_simp) <;> (try with_reducible rfl)))
              try simp only [Act.put, List.setIfInBounds_toArray, List.set_cons_zero, List.set_cons_succ]
              (refine wpZ_take (i := 6) (oi := ⟨some 138, .convert 3 26 (.tmp 137), 26, _, _, none⟩) (v := ?_) rfl (by kernel_rfl) (fun _ _ _ h => h) (by assumption) (Or.inl ⟨by rfl, ?_⟩) ?_; rotate_left 1; · ((intro w hSw; (try dsimp only at hSw); go_split_ands; go_simp) <;> (try with_reducible rfl)))
              try simp only [Act.put, List.setIfInBounds_toArray, List.set_cons_zero, List.set_cons_succ]
              (refine wpZ_take (i := 7) (oi := ⟨some 139, .binOp .add 26 (.tmp 136) (.tmp 138) 26, 26, _, _, none⟩) (v := ?_) rfl (by kernel_rfl) (fun _ _ _ h => h) (by assumption) (Or.inl ⟨by rfl, ?_⟩) ?_; rotate_left 1; · ((intro w hSw; (try dsimp only at hSw); go_split_ands; go_simp) <;> (try with_reducible rfl)))
              try simp only [Act.put, List.setIfInBounds_toArray, List.set_cons_zero, List.set_cons_succ]
              (refine wpZ_take (i := 8) (oi := ⟨some 140, .fieldAddr 45 (.tmp 12) 2, 0, _, _, none⟩) (v := ?_) rfl (by kernel_rfl) (fun _ _ _ h => h) (by assumption) (Or.inl ⟨by rfl, ?_⟩) ?_; rotate_left 1; · ((intro w hSw; (try dsimp only at hSw); go_split_ands; go_simp) <;> (try with_reducible rfl)))
              try simp only [Act.put, List.setIfInBounds_toArray, List.set_cons_zero, List.set_cons_succ]
              (refine wpZ_take (i := 9) (oi := ⟨some 141, .load 34 (.tmp 140), 34, _, _, none⟩) (v := ?_) rfl (by kernel_rfl) (fun _ _ _ h => h) (by assumption) (Or.inl ⟨by rfl, ?_⟩) ?_; rotate_left 1; · ((intro w hSw; (try dsimp only at hSw); go_split_ands; go_simp) <;> (try with_reducible rfl)))
              try simp only [Act.put, List.setIfInBounds_toArray, List.set_cons_zero, List.set_cons_succ]
              (refine wpZ_take (i := 10) (oi := ⟨some 142, .move (.tmp 14), 3, _, _, none⟩) (v := ?_) rfl (by kernel_rfl) (fun _ _ _ h => h) (by assumption) (Or.inl ⟨by rfl, ?_⟩) ?_; rotate_left 1; · ((intro w hSw; (try dsimp only at hSw); go_split_ands; go_simp) <;> (try with_reducible rfl)))
              try simp only [Act.put, List.setIfInBounds_toArray, List.set_cons_zero, List.set_cons_succ]
              (refine wpZ_take (i := 11) (oi := ⟨some 143, .indexAddr 34 (.tmp 141) (.tmp 142), 0, _, _, none⟩) (v := ?_) rfl (by kernel_rfl) (fun _ _ _ h => h) (by assumption) (Or.inl ⟨by rfl, ?_⟩) ?_; rotate_left 1; · ((intro w hSw; (try dsimp only at hSw); go_split_ands; go_simp) <;> (try with_reducible rfl)))
              try simp only [Act.put, List.setIfInBounds_toArray, List.set_cons_zero, List.set_cons_succ]
              (refine wpZ_take (i := 12) (oi := ⟨some 144, .load 5 (.tmp 143), 5, _, _, none⟩) (v := ?_) rfl (by kernel_rfl) (fun _ _ _ h => h) (by assumption) (Or.inl ⟨by rfl, ?_⟩) ?_; rotate_left 1; · ((intro w hSw; (try dsimp only at hSw); go_split_ands; go_simp) <;> (try with_reducible rfl)))
              try simp only [Act.put, List.setIfInBounds_toArray, List.set_cons_zero, List.set_cons_succ]
              (refine wpZ_take (i := 13) (oi := ⟨some 145, .indexAddr 34 (.tmp 135) (.tmp 139), 0, _, _, none⟩) (v := ?_) rfl (by kernel_rfl) (fun _ _ _ h => h) (by assumption) (Or.inl ⟨by rfl, ?_⟩) ?_; rotate_left 1; · ((intro w hSw; (try dsimp only at hSw); go_split_ands; go_simp) <;> (try with_reducible rfl)))
              try simp only [Act.put, List.setIfInBounds_toArray, List.set_cons_zero, List.set_cons_succ]
              refine wpZ_one (i := 14) (oi := ⟨none, .store 5 (.tmp 145) (.tmp 144), 0, _, _, none⟩) rfl (by kernel_rfl) (fun K hK => ?_)
              go_simp
              refine hK.out _ _ (fun h => by simp at h) (fun _ => ?_)
              clear hK K
              try simp only [Act.put, List.setIfInBounds_toArray, List.set_cons_zero, List.set_cons_succ]
              refine wpZ_done (by kernel_rfl) ?_ _
              refine all_worldC (fun W' => (∃ L6, Sm W' S2 L6 u iB M mcl { K with das := K.das.set n true, mem := laid K.mem d (x.bytes.take (m + 1)) } ∧ L6 (.mem u) = some (.rw 5 1 (.slice (some ⟨tgt, 0, none⟩) mn mcap) (ints .u8 (laid K.mem d (x.bytes.take (m + 1))))) ∧ L6 (.ins u) = L5 (.ins u) ∧ (∀ q : Key, q.own ≠ some u → L6 q = L2 q)) ∧ Ro S2 wo W' ∧ W'.cell? ⟨eB, 2, none⟩ = some (.slice (some ⟨ig, io, none⟩) x.bytes.length bc9)) ?_ ?_
              · obtain ⟨hs6, hr6⟩ := HM6.out
                have q := (Below.refl (wr.setCell ⟨tgt, dm, none⟩ (.int .u8 y)).heap.size (wr.setCell ⟨tgt, dm, none⟩ (.int .u8 y))).drew
                exact ⟨⟨_, hs6.still q, upd_same _ _ _, (upd_other _ _ (by simp)).trans HR6.out.2.2.2.1, fun q hq => (upd_other _ _ (by rintro rfl; exact hq rfl)).trans (HR6.out.2.1 q hq)⟩, HR6.out.1.trans' (hr6.trans' (bro q hs6.si.sep.lt)), HR6.out.2.2.2.2⟩
              · rintro w9 ⟨⟨L9, h9, b9, c9, d9⟩, r9', e9⟩
                have H9 := Lib.hid (show ∃ L6, Sm w9 S2 L6 u iB M mcl { K with das := K.das.set n true, mem := laid K.mem d (x.bytes.take (m + 1)) } ∧ L6 (.mem u) = some (.rw 5 1 (.slice (some ⟨tgt, 0, none⟩) mn mcap) (ints .u8 (laid K.mem d (x.bytes.take (m + 1))))) ∧ L6 (.ins u) = L5 (.ins u) ∧ Ro S2 wo w9 ∧ (∀ q : Key, q.own ≠ some u → L6 q = L2 q) ∧ w9.cell? ⟨eB, 2, none⟩ = some (.slice (some ⟨ig, io, none⟩) x.bytes.length bc9) from ⟨L9, h9, b9, c9, r9', d9, e9⟩)
                clear h9 b9 c9 d9 r9' e9 i14 e2 ky ct zt hHeld
                go_wp2
                go_roundw
                case rel => exact ⟨m + 1, HR6.out.2.2.1, by go_num, H9.out⟩
                case measure => (simp [intOf]; try omega)
            · obtain rfl : m = x.bytes.length := by omega
              have v1 : decide ((x.bytes.length : Int) < (x.bytes.length : Int)) = false := decide_eq_false (by omega)
              rw [List.take_length] at h6
              have HR6 := Lib.hid (And.intro h6 (And.intro ro6 hk6))
              clear h6 ht6 hi6 ro6 hk6 hm hlm
              go_wp2
              go_roundw
              case rel => exact ⟨n + 1, HX.out.2, by go_num, _, L6, HER2.out, HR6.out.1, H5.out.2.1.trans' HR6.out.2.1, HR6.out.2.2⟩
              case measure => (simp [intOf]; try omega)
        · obtain rfl : n = M.datas.length := by omega
          have hd0 : decide ((M.datas.length : Int) < (M.datas.length : Int)) = false := decide_eq_false (by omega)
          have hmk : makeI M ess = some K := by
            unfold makeI
            rw [HJ0.out]
            exact hK
          have H5 := Lib.hid (And.intro h5 (And.intro ro5 hk5))
          have HMK := Lib.hid hmk
          clear hK h5 ro5 hk5 hlt hn hmk
          go_wp2
          go_ret2
          rw [HMK.out]
          show ∃ iB S' L', _
          refine ⟨iB, S2, L5, rfl, ?_, HRO2.out.1.trans H5.out.2.1 HRO2.out.2.1, HRO2.out.2.1, fun q a b => (H5.out.2.2 q a).trans (HRO2.out.2.2 q a b)⟩
          rw [HML.out]
          exact H5.out.1
end Go.Proofs.YtmnebeikafigjaaGreatDoor
/- law18's module with one body, and what its body comes to: the plain law. -/
set_option linter.unusedVariables false
set_option linter.unusedSimpArgs false
namespace Go.Proofs.YtmnebeikafigjaaGreatDoor
open Go.RowKit Go.Sep Go.St
def M18 (b : List Ins) : Mo :=
  { types := [⟨[], [127]⟩, ⟨[], [127]⟩, ⟨[], []⟩], funcs := [0, 1, 2], tabs := [⟨4, 0, false⟩], mems := [⟨1, 0, false⟩], globs := [[ins 65 0 5, ins 11], [ins 66 0 6, ins 11]],
    elems := [⟨0, 0, [ins 65, ins 11], [[ins 210 1, ins 11], [ins 210 2, ins 11]]⟩], datas := [], codes := [⟨[127, 126], b⟩, ⟨[], [ins 65 0 77, ins 11]⟩, ⟨[], [ins 11]⟩] }
def ess18 (es : Es) : List Es := [es, [], []]
def I18 (es : Es) : In := { blocks := [getE es, getE [], getE []], mem := memX, tabs := [[2, 3, 0, 0]], glo := [5, 6], els := [true], das := [] }
theorem make18 (b : List Ins) (es : Es) : makeI (M18 b) (ess18 es) = some (I18 es) := by
  have e2 : memC (M18 b) = memX := by
    unfold memX
    show List.replicate (Int.toNat 1 * 65536) 0 = _
    rw [show Int.toNat 1 * 65536 = 65536 by decide]
  have e3 : newI (M18 b) (ess18 es) = { blocks := [getE es, getE [], getE []], mem := memX, tabs := [[0, 0, 0, 0]], glo := [5, 6], els := [false], das := [] } := by
    rw [← e2]
    rfl
  unfold makeI
  rw [e3]
  rfl
structure BodyOk (b : List Ins) (es : Es) : Prop where
  walk : WalkOk b es
  wf : ∀ x ∈ b, Ins.wf x
  len : b.length ≤ 1000
  es : ∀ a e, getE es a = some e → (-1000000 < e.1 ∧ e.1 < 999999) ∧ (-1000000 < e.2 ∧ e.2 < 999999)
theorem fine18 {b : List Ins} {es : Es} (h : BodyOk b es) : Fine (M18 b) (ess18 es) := by
  refine ⟨⟨by simp [M18], fun x hx => by simp [M18] at hx; subst hx; simp⟩, ⟨by simp [M18], fun x hx => by simp [M18] at hx; subst hx; simp⟩, by simp [M18, ess18], by simp [M18], fun k c es' hc he => ?_⟩
  have hk := (List.getElem?_eq_some_iff.1 hc).1
  simp [M18] at hk
  have : k = 0 ∨ k = 1 ∨ k = 2 := by omega
  rcases this with rfl | rfl | rfl <;> cases hc <;> cases he
  · exact h.walk
  · exact ⟨rfl, by decide, by decide, by decide⟩
  · exact ⟨rfl, by decide, by decide, by decide⟩
theorem wf18 {b : List Ins} {es : Es} (h : BodyOk b es) : Wf (M18 b) := by
  have i2 : ∀ l : List Ins, l.all insB = true → ∀ x ∈ l, Ins.wf x := fun l hl x hx => insB_ok (List.all_eq_true.1 hl x hx)
  refine ⟨fun x hx => ?_, fun t ht => ?_, by simp [M18], fun c hc => ?_, fun x hx => ?_, ⟨by simp [M18], fun l hl => ?_⟩, ⟨by simp [M18], fun e he => ?_⟩, ⟨by simp [M18], fun d hd => by simp [M18] at hd⟩⟩
  · simp [M18] at hx; omega
  · simp [M18] at ht
    rcases ht with rfl | rfl <;> simp
  · simp only [M18, List.mem_cons, List.not_mem_nil, or_false] at hc
    rcases hc with rfl | rfl | rfl
    · exact ⟨by have := h.len; simp only; omega, by simp, h.wf⟩
    · exact ⟨by simp, by simp, i2 _ (by decide)⟩
    · exact ⟨by simp, by simp, i2 _ (by decide)⟩
  · simp [M18] at hx
    rcases hx with rfl | rfl <;> simp
  · simp only [M18, List.mem_cons, List.not_mem_nil, or_false] at hl
    rcases hl with rfl | rfl
    · exact i2 _ (by decide)
    · exact i2 _ (by decide)
  · simp only [M18, List.mem_cons, List.not_mem_nil, or_false] at he
    subst he
    refine ⟨by simp, fun y hy => ?_, i2 _ (by decide), by simp, by simp⟩
    simp only [List.mem_cons, List.not_mem_nil, or_false] at hy
    rcases hy with rfl | rfl
    · exact i2 _ (by decide)
    · exact i2 _ (by decide)
theorem good18 {b : List Ins} {es : Es} (h : BodyOk b es) : Good (M18 b) 3 1 (openC (M18 b) 3 cf0 0 [], I18 es) := by
  have hc : CInv (M18 b) 3 1 (openC (M18 b) 3 cf0 ((0 : Nat) : Int) []) := cinv_open (K := 1) (wf18 h) ⟨by simp [cf0], fun x hx => by simp [cf0] at hx, by simp [cf0], fun f hf => by simp [cf0] at hf⟩ (by omega) (fun x hx => by simp at hx) (Nat.le_refl _)
  refine ⟨⟨fun bf hbf a e he => ?_⟩, rfl, fun x hx => by simp [I18] at hx; omega, hc⟩
  simp only [I18, List.mem_cons, List.not_mem_nil, or_false] at hbf
  rcases hbf with rfl | rfl | rfl
  · exact h.es a e he
  · simp [getE] at he
  · simp [getE] at he
/-- What a body comes to, within 500 instructions. -/
def Comes (b : List Ins) (es : Es) (ov : Bool) (er : Int) (va : List Int) : Prop := BodyOk b es ∧ ∃ (st : Nat → Cf × In) (n : Nat), st 0 = (openC (M18 b) 3 cf0 0 [], I18 es) ∧ (∀ k, k < n → StepOk (M18 b) (st k) (st (k + 1))) ∧ n ≤ 500 ∧ ((st n).1.ov = true ∨ n = 500) ∧
  (st n).1.ov = ov ∧ (ov = true → (st n).1.er = er ∧ (st n).1.va = va)
theorem comes {b : List Ins} {es : Es} {n : Nat} {c : Cf × In} (h : BodyOk b es) (hr : runsC (M18 b) n (openC (M18 b) 3 cf0 0 [], I18 es) = some c) (hn : n ≤ 500) (he : c.1.ov = true ∨ n = 500) : Comes b es c.1.ov c.1.er c.1.va := by
  obtain ⟨st, h0, h1, h2⟩ := runs_st (wf18 h) (good18 h) (Nat.le_refl _) (by omega) hr
  exact ⟨h, st, n, h0, h2, hn, by rw [h1]; exact he, by rw [h1], fun _ => by rw [h1]; exact ⟨rfl, rfl⟩⟩
theorem bodyB_ok {b : List Ins} (h : (walkB b && b.all insB && decide (b.length ≤ 1000) && (esOf b).all fun e => decide (-1000000 < e.2.1) && decide (e.2.1 < 999999) && decide (-1000000 < e.2.2) && decide (e.2.2 < 999999)) = true) : BodyOk b (esOf b) := by
  simp only [Bool.and_eq_true, decide_eq_true_eq, List.all_eq_true] at h
  obtain ⟨⟨⟨h1, h2⟩, h3⟩, h4⟩ := h
  exact ⟨walkB_ok h1, fun x hx => insB_ok (h2 x hx), h3, fun a e he => by
    have := h4 _ (getE_mem he)
    exact ⟨⟨this.1.1.1, this.1.1.2⟩, this.1.2, this.2⟩⟩
def deepB : List Ins := [ins 65 0 1, ins 65 0 1, ins 16, ins 11]
def bigB : List Ins := [ins 3 0 0 (-64), ins 65 0 1, ins 12, ins 11, ins 65 0 1, ins 11]
set_option maxRecDepth 100000 in
theorem deep_ok : BodyOk deepB (esOf deepB) := bodyB_ok (by kernel_rfl)
set_option maxRecDepth 100000 in
theorem big_ok : BodyOk bigB (esOf bigB) := bodyB_ok (by kernel_rfl)
def endL (M : Mo) (n : Nat) (c : Cf × In) := (runsC M n c).map fun c => (c.1.ov, c.1.er, c.1.va)
theorem comesL {b : List Ins} {es : Es} {n : Nat} {ov : Bool} {er : Int} {va : List Int} (h : BodyOk b es) (hr : endL (M18 b) n (openC (M18 b) 3 cf0 0 [], I18 es) = some (ov, er, va)) (hn : n ≤ 500) (he : ov = true ∨ n = 500) : Comes b es ov er va := by
  unfold endL at hr
  cases h1 : runsC (M18 b) n (openC (M18 b) 3 cf0 0 [], I18 es) with
  | none => rw [h1] at hr; cases hr
  | some c =>
    rw [h1] at hr
    simp only [Option.map_some, Option.some.injEq, Prod.mk.injEq] at hr
    obtain ⟨rfl, rfl, rfl⟩ := hr
    exact comes h h1 hn he
set_option maxRecDepth 100000 in
theorem deep_comes : Comes deepB (esOf deepB) true 8 [] := comesL (n := 96) deep_ok (by kernel_rfl) (by omega) (.inl rfl)
set_option maxRecDepth 100000 in
theorem big_comes : Comes bigB (esOf bigB) false 0 [] := comesL (n := 500) big_ok (by kernel_rfl) (by omega) (.inr rfl)
/-! ### so many on, and off again -/
def rowB (k : Nat) : List Ins := List.replicate k (ins 65 0 1) ++ List.replicate k (ins 26) ++ [ins 65 0 3, ins 11]
def stR (k at_ n : Nat) : Cf × In := (⟨[⟨0, at_, 1, 0, [0, 0], [⟨((2 * k + 1 : Nat) : Int), 1, 0⟩]⟩], List.replicate n 1, false, 0, []⟩, I18 [])
theorem row_on {k j : Nat} (h : j < k) : (rowB k)[j]? = some (ins 65 0 1) := by
  unfold rowB
  rw [List.append_assoc, List.getElem?_append_left (by simpa using h)]
  simp [h]
theorem row_off {k j : Nat} (h : j < k) : (rowB k)[k + j]? = some (ins 26) := by
  unfold rowB
  rw [List.append_assoc, List.getElem?_append_right (by simp), List.getElem?_append_left (by simpa using h)]
  simp [h]
theorem row_3 {k : Nat} : (rowB k)[2 * k]? = some (ins 65 0 3) := by
  unfold rowB
  rw [List.getElem?_append_right (by simp; omega)]
  simp [show 2 * k - (k + k) = 0 by omega]
theorem row_end {k : Nat} : (rowB k)[2 * k + 1]? = some (ins 11) := by
  unfold rowB
  rw [List.getElem?_append_right (by simp; omega)]
  simp [show 2 * k + 1 - (k + k) = 1 by omega]
theorem row_len (k : Nat) : (rowB k).length = 2 * k + 2 := by simp [rowB]; omega
theorem on_step {k at_ n : Nat} (v : Int) (hx : (rowB k)[at_]? = some (ins 65 0 v)) (hn : n ≤ 1000) : nextC (M18 (rowB k)) (stR k at_ n) = some (⟨[⟨0, ((at_ + 1 : Nat) : Int), 1, 0, [0, 0], [⟨((2 * k + 1 : Nat) : Int), 1, 0⟩]⟩], List.replicate n 1 ++ [v], false, 0, []⟩, I18 []) := by
  have h0 : ¬ ((at_ : Int) < 0) := by omega
  have hl : ¬ (1024 < n + 1) := by omega
  simp [nextC, stR, M18, hx, h0, ins, fixedOps, oneC, doC, controlC, placesC, pushI, setTop, hl]
theorem off_step {k at_ n : Nat} (hx : (rowB k)[at_]? = some (ins 26)) (hn : n ≤ 1000) : nextC (M18 (rowB k)) (stR k at_ (n + 1)) = some (stR k (at_ + 1) n) := by
  have h0 : ¬ ((at_ : Int) < 0) := by omega
  have hl : ¬ (1024 < n) := by omega
  have h1 : ¬ ((n : Int) + 1 < 1) := by omega
  simp [nextC, stR, M18, hx, h0, ins, fixedOps, oneC, doC, controlC, placesC, popsC, setTop, hl, h1]
theorem on_run {k : Nat} (hk : k ≤ 240) : ∀ j, j ≤ k → runsC (M18 (rowB k)) j (stR k 0 0) = some (stR k j j)
  | 0, _ => rfl
  | j + 1, h => by
    refine runs_add (on_run hk j (by omega)) ?_
    have := on_step (n := j) 1 (row_on (show j < k by omega)) (by omega)
    simp only [runsC, this]
    simp [stR, List.replicate_succ']
theorem off_run {k : Nat} (hk : k ≤ 240) : ∀ j, j ≤ k → runsC (M18 (rowB k)) j (stR k k k) = some (stR k (k + j) (k - j))
  | 0, _ => rfl
  | j + 1, h => by
    refine runs_add (off_run hk j (by omega)) ?_
    have := off_step (n := k - j - 1) (row_off (show j < k by omega)) (by omega)
    rw [show k - j - 1 + 1 = k - j by omega] at this
    simp only [runsC, this]
    rfl
theorem end_run {k : Nat} : (runsC (M18 (rowB k)) 2 (stR k (2 * k) 0)).map (fun c => (c.1.ov, c.1.er, c.1.va)) = some (true, 0, [3]) := by
  have h1 := on_step (n := 0) 3 (row_3 (k := k)) (by omega)
  have h0 : ¬ ((2 * (k : Int) + 1) < 0) := by omega
  have h9 : (2 * (k : Int) + 1).toNat = 2 * k + 1 := by omega
  simp only [runsC, h1]
  simp [nextC, stR, M18, row_end, h0, h9, ins, fixedOps, oneC, doC, controlC, closeC, leaveC, landsC, popsC, setTop]
theorem rowE : ∀ {k n : Nat}, n < 2 * k + 2 → runE (rowB k) n = some ([], [])
  | k, 0, _ => rfl
  | k, n + 1, h => by
    have ih := rowE (k := k) (n := n) (by omega)
    have : opA (rowB k) (n : Int) = 65 ∨ opA (rowB k) (n : Int) = 26 := by
      unfold opA
      rw [Int.toNat_natCast]
      by_cases h1 : n < k
      · rw [row_on h1]; exact .inl rfl
      by_cases h2 : n < 2 * k
      · rw [show n = k + (n - k) by omega, row_off (by omega)]; exact .inr rfl
      · rw [show n = 2 * k by omega, row_3]; exact .inl rfl
    unfold runE
    rw [ih]
    unfold stepE
    rcases this with e | e <;> simp [e]
theorem row_ok {k : Nat} (hk : k ≤ 240) : BodyOk (rowB k) [] := by
  have he : opA (rowB k) ((2 * k + 1 : Nat) : Int) = 11 := by
    unfold opA
    rw [Int.toNat_natCast, row_end]
    rfl
  refine ⟨⟨?_, by rw [row_len]; omega, by rw [row_len]; exact he, ?_⟩, fun x hx => ?_, by rw [row_len]; omega, fun a e he => by simp [getE] at he⟩
  · rw [row_len]
    show runE (rowB k) ((2 * k + 1) + 1) = _
    unfold runE
    rw [rowE (by omega)]
    simp only
    unfold stepE
    simp only [he]
    simp [row_len]
  · unfold endsN
    rw [List.take_length]
    unfold rowB
    simp [List.filter_append, List.filter_replicate, ins]
  · simp only [rowB, List.mem_append, List.mem_replicate, List.mem_cons, List.not_mem_nil, or_false] at hx
    rcases hx with (⟨_, rfl⟩ | ⟨_, rfl⟩) | rfl | rfl <;> exact insB_ok (by decide)
theorem row_comes {k : Nat} (hk : k ≤ 240) : Comes (rowB k) [] true 0 [3] := by
  have e0 : (openC (M18 (rowB k)) 3 cf0 0 [], I18 []) = stR k 0 0 := by
    simp [openC, cf0, functionM, M18, stR, argsOf, row_len]
    omega
  refine comesL (n := k + k + 2) (row_ok hk) ?_ (by omega) (.inl rfl)
  unfold endL
  rw [e0]
  have hE := end_run (k := k)
  have ho := off_run hk k (Nat.le_refl _)
  rw [show k + k = 2 * k by omega, Nat.sub_self] at ho
  cases h2 : runsC (M18 (rowB k)) 2 (stR k (2 * k) 0) with
  | none => rw [h2] at hE; cases hE
  | some c =>
    rw [h2] at hE
    rw [runs_add (runs_add (on_run hk k (Nat.le_refl _)) ho) h2]
    exact hE
end Go.Proofs.YtmnebeikafigjaaGreatDoor
/- law18's begun. -/
set_option linter.unusedVariables false
set_option linter.unusedSimpArgs false
namespace Go.Proofs.YtmnebeikafigjaaGreatDoor
open Go.RowKit Go.Sep Go.St
variable {w : World} {S : Nat → Prop} {L : Key → Option Ck} {u : Nat} {M : Mo}
/-- The five cells of a config. -/
theorem Sd.five {cB co iB : Nat} {s : Ms} (h : Sd w S L u cB co iB M s) : ∃ fA fc sA sc vA vc, w.cell? ⟨cB, co, none⟩ = some (.slice fA s.c.frs.length fc) ∧ w.cell? ⟨cB, co + 1, none⟩ = some (.slice sA s.c.st.length sc) ∧ w.cell? ⟨cB, co + 2, none⟩ = some (.bool s.c.ov) ∧ w.cell? ⟨cB, co + 3, none⟩ = some (.int .i64 s.c.er) ∧ w.cell? ⟨cB, co + 4, none⟩ = some (.slice vA s.c.va.length vc) := by
  obtain ⟨fv, sv, vv, hC, ⟨raws, q1, q2, _⟩, h3, h4⟩ := h.cfg
  obtain ⟨A, n, c, rfl, _, _, hl, _⟩ := Row.rd (h.sep.holds _ _ q2)
  obtain ⟨A2, n2, c2, rfl, _, _, hl2, _⟩ := Row.rd (h.sep.holds _ _ h3)
  obtain ⟨A3, n3, c3, rfl, _, _, hl3, _⟩ := Row.rd (h.sep.holds _ _ h4)
  have e1 : n = s.c.frs.length := by
    have hz : (s.c.frs.zip raws).length = s.c.frs.length := by rw [List.length_zip, q1, Nat.min_self]
    have : ((s.c.frs.zip raws).flatMap fun p => frC p.1 p.2.1 p.2.2).length = (s.c.frs.zip raws).length * 6 := by
      generalize s.c.frs.zip raws = l
      induction l with
      | nil => rfl
      | cons a r ih => rw [List.flatMap_cons, List.length_append, ih, List.length_cons, Nat.succ_mul]; simp [frC]; omega
    rw [this, hz] at hl
    omega
  have e2 : n2 = s.c.st.length := by rw [ints_len, Nat.mul_one] at hl2; exact hl2.symm
  have e3 : n3 = s.c.va.length := by rw [ints_len, Nat.mul_one] at hl3; exact hl3.symm
  subst e1 e2 e3
  exact ⟨A, c, A2, c2, A3, c3, h.sep.cellA hC, h.sep.cell hC 1 _ rfl, h.sep.cell hC 2 _ rfl, h.sep.cell hC 3 _ rfl, h.sep.cell hC 4 _ rfl⟩
theorem make0I : makeI (fixedM [] []) ess0 = some (fixedI [] 0) := by
  rw [← new0]
  rfl
theorem rmake0 {w : World} {tA fA bA mA gA xA eA cA dA : Option Addr} {tc fc bc mk gc xn xc ec cc dc : Nat} (h : ModR w (AllB w) (fixedM [] []) (FixV tA fA bA mA gA xA eA cA dA tc fc bc mk gc xn xc ec cc dc fA 8 fc false 0 cA 8 cc)) :
    Calls Tryz.prog 12 #[.agg #[.slice tA 4 tc, .slice fA 8 fc, .slice bA 0 bc, .slice mA 1 mk, .slice gA 1 gc, .slice xA xn xc, .bool false, .int .u32 0, .slice eA 0 ec, .bool false, .int .u32 0, .slice cA 8 cc, .slice dA 0 dc]] w fun e w' => ∃ iB S' L', e = .returned (.tuple #[.pointer (some ⟨iB, 0, none⟩), .int .i64 0]) ∧ Si w' S' L' 0 iB (fixedM [] []) (fixedI [] 0) ∧ Ro (AllB w) w w' ∧ (∀ b, AllB w b → S' b) ∧ ∀ q : Key, q.own ≠ some 0 → q ≠ .tmp 3 → L' q = none := by
  have sep : Sep w (AllB w) (fun _ : Key => none) := ⟨fun _ _ h => (nomatch h), fun _ _ _ _ _ h => (nomatch h), fun _ _ _ h => (nomatch h), fun b hb => hb⟩
  have := rmake_c (u := 0) sep h wf0 rfl rfl ⟨rfl, rfl, rfl, rfl, rfl⟩ ess0 fine0 (fun x hx => by simp [fixedM] at hx)
  rw [make0I] at this
  refine this.mono ?_
  rintro e w' ⟨iB, S', L', he, hs, hr, hS, hk⟩
  exact ⟨iB, S', L', he, hs.si, hr, hS, hk⟩
theorem good0 (f : Nat) (hf : f < 4294967296) (args : List Int) (ha : U64 args) : Good (fixedM [] []) 8 1 (openC (fixedM [] []) 8 cf0 f args, fixedI [] 0) := by
  have hbk : BkInv (fixedI [] 0).blocks := by
    refine ⟨fun bf hbf => ?_⟩
    have hbf : bf ∈ (fixedBodies ++ []).map blocksOf := hbf
    rw [List.append_nil] at hbf
    obtain ⟨b, hb, rfl⟩ := List.mem_map.1 hbf
    obtain ⟨h1, h2⟩ := blkB_ok (List.all_eq_true.1 blk0 b hb)
    intro a e h
    rw [← h1] at h
    exact h2 a e h
  have hbl : (fixedI [] 0).blocks.length = 8 := by simp [fixedI, fixedBodies]
  have ci : CInv (fixedM [] []) 8 1 cf0 := ⟨by simp [cf0], fun x hx => by simp [cf0] at hx, by simp [cf0], fun f hf => by simp [cf0] at hf⟩
  exact ⟨hbk, hbl, fun x hx => by simp [fixedI] at hx; omega, cinv_open wf0 ci hf ha (Nat.le_refl _)⟩
set_option maxRecDepth 100000 in
theorem run_get : runsC (fixedM [] []) 2 (openC (fixedM [] []) 8 cf0 1 [], fixedI [] 0) = some (⟨[], [], true, 0, [0]⟩, fixedI [] 0) := by kernel_rfl
set_option maxRecDepth 100000 in
theorem run_get1 : ((runsC (fixedM [] []) 1 (openC (fixedM [] []) 8 cf0 1 [], fixedI [] 0)).map fun c => c.1.st.length) = some 1 := by kernel_rfl
theorem get_run : ∃ c0 c1 c2 : Cf × In, c0 = (openC (fixedM [] []) 8 cf0 1 [], fixedI [] 0) ∧ StepOk (fixedM [] []) c0 c1 ∧ StepOk (fixedM [] []) c1 c2 ∧ c1.1.st.length = 1 ∧ c2.1 = ⟨[], [], true, 0, [0]⟩ := by
  have hr := run_get
  have hr1 := run_get1
  have hg := good0 1 (by omega) [] (fun x hx => by simp at hx)
  generalize (openC (fixedM [] []) 8 cf0 1 [], fixedI [] 0) = c0 at hr hr1 hg
  simp only [runsC] at hr hr1
  cases h1 : nextC (fixedM [] []) c0 with
  | none => rw [h1] at hr; cases hr
  | some c1 =>
    rw [h1] at hr hr1
    simp only at hr hr1
    obtain ⟨s1, g1⟩ := next_ok wf0 hg (Nat.le_refl _) (by omega) h1
    cases h2 : nextC (fixedM [] []) c1 with
    | none => rw [h2] at hr; cases hr
    | some c2 =>
      rw [h2] at hr
      simp only [Option.some.injEq] at hr
      obtain ⟨s2, _⟩ := next_ok wf0 g1 (by omega) (by omega) h2
      exact ⟨c0, c1, c2, rfl, s1, s2, by simpa using hr1, by rw [hr]⟩
theorem Same0.ro {W w w1 : World} {S : Nat → Prop} (h : Same0 W w) (r : Ro S w w1) (hS : ∀ b, b < W.heap.size → S b) : Same0 W w1 :=
  ⟨r.1.2.1.trans h.os, r.1.2.2.trans h.output, Nat.le_trans h.size r.1.1, fun b hb => (r.2 b (hS b hb)).trans (h.block b hb)⟩
set_option maxRecDepth 100000 in
theorem open_get : (openC (fixedM [] []) 8 cf0 1 []).frs.length = 1 := by kernel_rfl
set_option maxRecDepth 100000 in
set_option maxHeartbeats 4000000 in
theorem begun18 (w : World) : Calls Tryz.prog 9 #[] w fun e w' => e = .returned (.bool true) ∧ Same0 w w' := by
  obtain ⟨c0, c1, c2, e0, s1, s2, hl1, hc2⟩ := get_run
  have HC := Lib.hid (And.intro e0 (And.intro s1 (And.intro s2 (And.intro hl1 hc2))))
  clear e0 s1 s2 hl1 hc2
  go_enter Tryz.func9, Tryz.ntmps9
  go_wp2_with fail
  refine (fixed_form _).mono ?_
  rintro e w2 ⟨tA, fA, bA, mA, gA, xA, eA, cA, dA, tc, fc, bc, mk, gc, xn, xc, ec, cc, dc, rfl, hm, hb2⟩
  have HS2 := Lib.hid (Same0.of_below hb2)
  have HMK := Lib.hid (rmake0 hm)
  clear hm hb2
  go_wp2_with fail
  refine HMK.out.mono ?_
  rintro e w3 ⟨iB, S3, L3, rfl, h3, ro3, hS3, hk3⟩
  have HS3 := Lib.hid (HS2.out.trans (Same0.of_ro ro3))
  have HB := Lib.hid (begin_c h3 (hk3 _ (by simp [Key.own]) (by simp)) 1 (by omega) none 0 0 [] rdl_nil (fun x hx => by simp at hx))
  have HL := Lib.hid (And.intro h3.sep.lt (show ∀ b, b < w.heap.size → S3 b from fun b hb => hS3 b (Nat.lt_of_lt_of_le hb HS2.out.size)))
  clear h3 ro3 hS3 hk3
  go_wp2_with fail
  refine HB.out.mono ?_
  rintro e w4 ⟨fv, sv, vv, S4, L4, rfl, hv, k4, ro4, hS4⟩
  obtain ⟨fA1, fn, fc1, sA, sn, sc, vA, vn, vc, rfl, rfl, rfl⟩ := hv.forms
  have hd := hv.put
  have hms : (⟨openC (fixedM [] []) (fixedI [] 0).blocks.length cf0 ((1 : Nat) : Int) [], fixedI [] 0, none⟩ : Ms) = ms c0 := by rw [HC.out.1]; rfl
  rw [hms] at hd
  have HS4 := Lib.hid (And.intro (HS3.out.ro ro4 HL.out.2) (fun b hb => hS4 b (HL.out.2 b hb) : ∀ b, b < w.heap.size → S4 b))
  clear hms hv k4 ro4 hS4 HB
  go_upto_region 5 with (fail)
  refine all_worldC (fun W' => ∃ S5 L5, Sd W' S5 L5 0 w4.heap.size 0 iB (fixedM [] []) (ms c0) ∧ Below w4.heap.size w4 W' ∧ ∀ b, b < w.heap.size → S5 b) ⟨S4, _, hd, (Below.refl _ _).alloc (Nat.le_refl _) _, HS4.out.2⟩ ?_
  rintro w5 ⟨S5, L5, h5, hb5, hS5⟩
  clear hd
  have HS5 := Lib.hid (And.intro (HS4.out.1.trans (Same0.of_below hb5)) hS5)
  generalize w4.heap.size = cB at h5 ⊢
  obtain ⟨fA, fc, sA, sc, vA, vc, f0, f1, f2, f3, f4⟩ := h5.five
  have hfl : (ms c0).c.frs.length = 1 := by rw [HC.out.1]; exact open_get
  rw [hfl] at f0
  have HO1 := Lib.hid (one_s h5 HC.out.2.1)
  clear hb5 hS5 h5 f1 f2 f3 f4 hfl
  go_wp2_with fail
  refine HO1.out.mono ?_
  rintro e w6 ⟨rfl, S6, L6, h6, k6, ro6, hS6⟩
  have HS6 := Lib.hid (And.intro (HS5.out.1.ro ro6 HS5.out.2) (fun b hb => hS6 b (HS5.out.2 b hb) : ∀ b, b < w.heap.size → S6 b))
  obtain ⟨fA, fc, sA, sc, vA, vc, g0, g1, g2, g3, g4⟩ := h6.five
  rw [show (ms c1).c.st.length = 1 from HC.out.2.2.2.1] at g1
  have HO2 := Lib.hid (one_s h6 HC.out.2.2.1)
  clear h6 k6 ro6 hS6 g0 g2 g3 g4 f0
  rw [Nat.zero_add] at g1
  go_wp2_with fail
  refine HO2.out.mono ?_
  rintro e w7 ⟨rfl, S7, L7, h7, k7, ro7, hS7⟩
  have HS7 := Lib.hid (HS6.out.1.ro ro7 HS6.out.2)
  obtain ⟨fA, fc, sA, sc, vA, vc, g0, g1', g2, g3, g4⟩ := h7.five
  have hc2 : (ms c2).c = ⟨[], [], true, 0, [0]⟩ := HC.out.2.2.2.2
  rw [hc2] at g2 g3 g4
  simp only [Nat.zero_add, List.length_singleton, List.length_cons, List.length_nil] at g2 g3 g4
  clear h7 k7 ro7 hS7 g0 g1 g1' hc2 HO1 HO2
  go_wp2
  go_ret
  exact ⟨rfl, HS7.out⟩
end Go.Proofs.YtmnebeikafigjaaGreatDoor
/- law18's ran: its module as it lies in memory. -/
set_option linter.unusedVariables false
set_option linter.unusedSimpArgs false
namespace Go.Proofs.YtmnebeikafigjaaGreatDoor
open Go.RowKit Go.Sep Go.St
/-- What ran lays before its call of Make, from block n on. -/
def ranO (n : Nat) (rA : Option Addr) (rc : Nat) (bA : Option Addr) (bl bc : Nat) : List Obj := [
  .cells #[.slice none 0 0, .slice rA 1 rc] 36,
  .cells (iV (ins 11)).toArray 29,
  .cells (([127] : List Int).map fun x => [Value.int .u8 x]).flatten.toArray 5,
  .cells ([[.slice none 0 0, .slice rA 1 rc], [.slice none 0 0, sl1 (n + 2) 1], [.slice none 0 0, .slice none 0 0]] : List (List Value)).flatten.toArray 36,
  .cells (([0, 1, 2] : List Int).map fun x => [Value.int .u32 x]).flatten.toArray 25,
  .cells (([127, 126] : List Int).map fun x => [Value.int .u8 x]).flatten.toArray 5,
  .cells (([ins 65 0 77, ins 11] : List Ins).map iV).flatten.toArray 29,
  .cells (([ins 11] : List Ins).map iV).flatten.toArray 29,
  .cells ([[sl1 (n + 5) 2, .slice bA bl bc], [.slice none 0 0, sl1 (n + 6) 2], [.slice none 0 0, sl1 (n + 7) 1]] : List (List Value)).flatten.toArray 39,
  .cells #[sl1 (n + 3) 3, sl1 (n + 4) 3, sl1 (n + 11) 1, sl1 (n + 10) 1, sl1 (n + 14) 2, .slice none 0 0, .bool false, .int .u32 0, sl1 (n + 19) 1, .bool false, .int .u32 0, sl1 (n + 8) 3, .slice none 0 0] 52,
  .cells ([[.int .u32 1, .int .u32 0, .bool false]] : List (List Value)).flatten.toArray 42,
  .cells ([[.int .u8 112, .int .u32 4, .int .u32 0, .bool false]] : List (List Value)).flatten.toArray 83,
  .cells (([ins 65 0 5, ins 11] : List Ins).map iV).flatten.toArray 29,
  .cells (([ins 66 0 6, ins 11] : List Ins).map iV).flatten.toArray 29,
  .cells ([[.int .u8 127, .bool true, sl1 (n + 12) 2], [.int .u8 126, .bool false, sl1 (n + 13) 2]] : List (List Value)).flatten.toArray 121,
  .cells (([ins 65, ins 11] : List Ins).map iV).flatten.toArray 29,
  .cells (([ins 210 1, ins 11] : List Ins).map iV).flatten.toArray 29,
  .cells (([ins 210 2, ins 11] : List Ins).map iV).flatten.toArray 29,
  .cells ([[sl1 (n + 16) 2], [sl1 (n + 17) 2]] : List (List Value)).flatten.toArray 24,
  .cells ([[.int .u8 0, .int .u8 112, .int .u32 0, sl1 (n + 15) 2, sl1 (n + 18) 2]] : List (List Value)).flatten.toArray 86]
def ranV (n : Nat) : List Value := [sl1 (n + 3) 3, sl1 (n + 4) 3, sl1 (n + 11) 1, sl1 (n + 10) 1, sl1 (n + 14) 2, .slice none 0 0, .bool false, .int .u32 0, sl1 (n + 19) 1, .bool false, .int .u32 0, sl1 (n + 8) 3, .slice none 0 0]
theorem ran_mod {w' : World} {n : Nat} {b : List Ins} {rA bA : Option Addr} {rc bc : Nat} (hO : ∀ i o, (ranO n rA rc bA b.length bc)[i]? = some o → w'.heap[n + i]? = some o)
    (hr : RdL w' (AllB w') 1 (num1 .u8) (.slice rA 1 rc) [127]) (hb : RdL w' (AllB w') 6 (InsR w' (AllB w')) (.slice bA b.length bc) b) : ModR w' (AllB w') (M18 b) (ranV n) := by
  have i2 : ∀ b (l : List Ins), w'.heap[b]? = some (.cells (l.map iV).flatten.toArray 29 (0, 0)) → (∀ x ∈ l, x.l = []) → l.length ≤ maxLen → RdL w' (AllB w') 6 (InsR w' (AllB w')) (.slice (some ⟨b, 0, none⟩) l.length l.length) l := fun b l h a c => ins_block h a c
  have n2 : RdL w' (AllB w') 1 (num1 .u8) (sl1 (n + 2) 1) [127] := num_block (hO 2 _ rfl) (by simp [maxLen])
  have n5 : RdL w' (AllB w') 1 (num1 .u8) (sl1 (n + 5) 2) [127, 126] := num_block (hO 5 _ rfl) (by simp [maxLen])
  have j6 := i2 _ [ins 65 0 77, ins 11] (hO 6 _ rfl) (by simp [ins]) (by simp [maxLen])
  have j7 := i2 _ [ins 11] (hO 7 _ rfl) (by simp [ins]) (by simp [maxLen])
  have j12 := i2 _ [ins 65 0 5, ins 11] (hO 12 _ rfl) (by simp [ins]) (by simp [maxLen])
  have j13 := i2 _ [ins 66 0 6, ins 11] (hO 13 _ rfl) (by simp [ins]) (by simp [maxLen])
  have j15 := i2 _ [ins 65, ins 11] (hO 15 _ rfl) (by simp [ins]) (by simp [maxLen])
  have j16 := i2 _ [ins 210 1, ins 11] (hO 16 _ rfl) (by simp [ins]) (by simp [maxLen])
  have j17 := i2 _ [ins 210 2, ins 11] (hO 17 _ rfl) (by simp [ins]) (by simp [maxLen])
  refine ⟨rfl, ⟨_, rfl, ?_⟩, ⟨_, rfl, num_block (hO 4 _ rfl) (by simp [maxLen])⟩, ⟨_, rfl, ?_⟩, ⟨_, rfl, ?_⟩, ⟨_, rfl, ?_⟩, ⟨_, rfl, ?_⟩, ⟨_, rfl, ?_⟩, ⟨_, rfl, rdl_nil⟩⟩
  · refine rdl_block (sz := 2) (xs := (M18 b).types) (by omega) (hO 3 _ rfl) rfl (by simp) (fun k x cs hx hcs => ?_) (by simp [M18, maxLen])
    have hk := (List.getElem?_eq_some_iff.1 hcs).1
    simp at hk
    have : k = 0 ∨ k = 1 ∨ k = 2 := by omega
    rcases this with rfl | rfl | rfl <;> cases hx <;> cases hcs
    · exact ⟨_, _, rfl, rdl_nil, hr⟩
    · exact ⟨_, _, rfl, rdl_nil, n2⟩
    · exact ⟨_, _, rfl, rdl_nil, rdl_nil⟩
  · refine rdl_block (sz := 4) (xs := (M18 b).tabs) (by omega) (hO 11 _ rfl) rfl (by simp) (fun k x cs hx hcs => ?_) (by simp [M18, maxLen])
    have hk := (List.getElem?_eq_some_iff.1 hcs).1
    simp at hk
    subst hk
    cases hx
    cases hcs
    exact ⟨_, rfl⟩
  · refine rdl_block (sz := 3) (xs := (M18 b).mems) (by omega) (hO 10 _ rfl) rfl (by simp) (fun k x cs hx hcs => ?_) (by simp [M18, maxLen])
    have hk := (List.getElem?_eq_some_iff.1 hcs).1
    simp at hk
    subst hk
    cases hx
    cases hcs
    rfl
  · refine rdl_block (sz := 3) (xs := (M18 b).globs) (by omega) (hO 14 _ rfl) rfl (by simp) (fun k x cs hx hcs => ?_) (by simp [M18, maxLen])
    have hk := (List.getElem?_eq_some_iff.1 hcs).1
    simp at hk
    have : k = 0 ∨ k = 1 := by omega
    rcases this with rfl | rfl <;> cases hx <;> cases hcs
    · exact ⟨_, _, _, rfl, j12⟩
    · exact ⟨_, _, _, rfl, j13⟩
  · refine rdl_block (sz := 5) (xs := (M18 b).elems) (by omega) (hO 19 _ rfl) rfl (by simp) (fun k x cs hx hcs => ?_) (by simp [M18, maxLen])
    have hk := (List.getElem?_eq_some_iff.1 hcs).1
    simp at hk
    subst hk
    cases hx
    cases hcs
    refine ⟨_, _, _, rfl, j15, ?_⟩
    refine rdl_block (sz := 1) (xs := [[ins 210 1, ins 11], [ins 210 2, ins 11]]) (by omega) (hO 18 _ rfl) rfl (by simp) (fun k x cs hx hcs => ?_) (by simp [maxLen])
    have hk := (List.getElem?_eq_some_iff.1 hcs).1
    simp at hk
    have : k = 0 ∨ k = 1 := by omega
    rcases this with rfl | rfl <;> cases hx <;> cases hcs
    · exact ⟨_, rfl, j16⟩
    · exact ⟨_, rfl, j17⟩
  · refine rdl_block (sz := 2) (xs := (M18 b).codes) (by omega) (hO 8 _ rfl) rfl (by simp) (fun k x cs hx hcs => ?_) (by simp [M18, maxLen])
    have hk := (List.getElem?_eq_some_iff.1 hcs).1
    simp at hk
    have : k = 0 ∨ k = 1 ∨ k = 2 := by omega
    rcases this with rfl | rfl | rfl <;> cases hx <;> cases hcs
    · exact ⟨_, _, rfl, n5, hb⟩
    · exact ⟨_, _, rfl, rdl_nil, j6⟩
    · exact ⟨_, _, rfl, rdl_nil, j7⟩
/-- Its instance. -/
theorem ran_make {w : World} {n : Nat} {b : List Ins} {es : Es} (hb : BodyOk b es) (h : ModR w (AllB w) (M18 b) (ranV n)) :
    Calls Tryz.prog 12 #[.agg (ranV n).toArray] w fun e w' => ∃ iB S' L', e = .returned (.tuple #[.pointer (some ⟨iB, 0, none⟩), .int .i64 0]) ∧ Si w' S' L' 0 iB (M18 b) (I18 es) ∧ Ro (AllB w) w w' ∧ (∀ b, AllB w b → S' b) ∧ ∀ q : Key, q.own ≠ some 0 → q ≠ .tmp 3 → L' q = none := by
  have sep : Sep w (AllB w) (fun _ : Key => none) := ⟨fun _ _ h => (nomatch h), fun _ _ _ _ _ h => (nomatch h), fun _ _ _ h => (nomatch h), fun b hb => hb⟩
  have := rmake_c (u := 0) sep h (wf18 hb) rfl rfl ⟨rfl, rfl, rfl, rfl, rfl⟩ (ess18 es) (fine18 hb) (fun x hx _ _ => by simp [M18] at hx; subst hx; simp [M18])
  rw [make18] at this
  refine this.mono ?_
  rintro e w' ⟨iB, S', L', he, hs, hr, hS, hk⟩
  exact ⟨iB, S', L', he, hs.si, hr, hS, hk⟩
end Go.Proofs.YtmnebeikafigjaaGreatDoor
/- law18's ran, walked. -/
set_option linter.unusedVariables false
set_option linter.unusedSimpArgs false
namespace Go.Proofs.YtmnebeikafigjaaGreatDoor
open Go.RowKit Go.Sep Go.St
def RanR (w : World) (ov : Bool) (er : Int) (va : List Int) (e : Ending) (w' : World) : Prop := Same0 w w' ∧ match ov with
  | true => ∃ A c, e = .returned (.tuple #[.slice A va.length c, .int .i64 er]) ∧ RdL w' (AllB w') 1 (num1 .u64) (.slice A va.length c) va
  | false => e = .returned (.tuple #[.slice none 0 0, .int .i64 13])
theorem Sd.vals {w : World} {S : Nat → Prop} {L : Key → Option Ck} {u cB co iB : Nat} {M : Mo} {s : Ms} (h : Sd w S L u cB co iB M s) : ∃ A c, w.cell? ⟨cB, co + 4, none⟩ = some (.slice A s.c.va.length c) ∧ RdL w (AllB w) 1 (num1 .u64) (.slice A s.c.va.length c) s.c.va := by
  obtain ⟨fv, sv, vv, hC, _, _, h4⟩ := h.cfg
  have hr := h.sep.holds _ _ h4
  obtain ⟨A3, n3, c3, rfl, _, _, hl3, _⟩ := Row.rd hr
  have e3 : n3 = s.c.va.length := by rw [ints_len, Nat.mul_one] at hl3; exact hl3.symm
  subst e3
  exact ⟨A3, c3, h.sep.cell hC 4 _ rfl, rdl_of_row hr⟩
theorem RanR.still {w w1 w2 : World} {ov : Bool} {er : Int} {va : List Int} {e : Ending} (h : RanR w ov er va e w1) (hs : Still w1 w2) : RanR w ov er va e w2 := by
  have hS : ∀ b, AllB w1 b → AllB w2 b := fun b hb => Nat.lt_of_lt_of_le hb hs.1.1
  have ro : Ro (AllB w1) w1 w2 := hs.ro (fun b hb => hb)
  refine ⟨h.1.trans (Same0.of_ro ro), ?_⟩
  cases ov with
  | true =>
    obtain ⟨A, c, rfl, hr⟩ := h.2
    exact ⟨A, c, rfl, hr.mono ro hS fun _ _ h => h⟩
  | false => exact h.2
theorem RanR.drewN {w w1 : World} {ov : Bool} {er : Int} {va : List Int} {e : Ending} (h : RanR w ov er va e w1) (n : Nat) : RanR w ov er va e (w1.drewN n) := h.still ((Still.refl _).drewN n)
theorem callsC {P : Program} {f : Nat} {args : Array Value} {Q : Ending → World → Prop} {W : World} (X : World → Prop) (h1 : X W) (h2 : ∀ W', X W' → Calls P f args W' Q) : Calls P f args W Q := h2 W h1
set_option maxRecDepth 100000 in
set_option maxHeartbeats 4000000 in
theorem ran_c (w : World) (b : List Ins) (es : Es) (ov : Bool) (er : Int) (va : List Int) (hc : Comes b es ov er va) {rA bA : Option Addr} {rc bc : Nat} (hr : RdL w (AllB w) 1 (num1 .u8) (.slice rA 1 rc) [127]) (hb : RdL w (AllB w) 6 (InsR w (AllB w)) (.slice bA b.length bc) b) :
    Calls Tryz.prog 31 #[.agg #[.slice none 0 0, .slice rA 1 rc], .slice bA b.length bc, .slice none 0 0] w (RanR w ov er va) := by
  obtain ⟨hbo, st, n, hst0, hst, hn, hend, hov, hval⟩ := hc
  have HC := Lib.hid (And.intro hst0 (And.intro hst (And.intro hn (And.intro hend (And.intro hov hval)))))
  have HR := Lib.hid (And.intro hr hb)
  have HBO := Lib.hid hbo
  clear hst0 hst hn hend hov hval hr hb hbo
  have HBL := Lib.hid (Eq.refl b.length)
  generalize hbl : b.length = bl at HBL HR
  go_enter Tryz.func31, Tryz.ntmps31
  go_wp2_with fail
  refine callsC (fun W' => Below w.heap.size w W' ∧ W'.heap.size = w.heap.size + 20 ∧ ∀ i o, (ranO w.heap.size rA rc bA bl bc)[i]? = some o → W'.heap[w.heap.size + i]? = some o) (allocs_spec (ranO w.heap.size rA rc bA bl bc) w) ?_
  rintro w1 ⟨hb1, hsz, hO⟩
  have HS1 := Lib.hid (Same0.of_below hb1)
  have HM := Lib.hid (show ModR w1 (AllB w1) (M18 b) (ranV w.heap.size) from by
    subst hbl
    have ro : Ro (AllB w) w w1 := ⟨⟨hb1.size, hb1.os, hb1.output⟩, fun b hb => hb1.block b hb⟩
    have hS : ∀ b, AllB w b → AllB w1 b := fun b hb => Nat.lt_of_lt_of_le hb hb1.size
    exact ran_mod hO (HR.out.1.mono ro hS fun _ _ h => h) (HR.out.2.mono ro hS fun _ _ h => h.mono ro hS))
  have HMK := Lib.hid (ran_make HBO.out HM.out)
  clear hb1 hsz hO
  refine HMK.out.mono ?_
  rintro e w3 ⟨iB, S3, L3, rfl, h3, ro3, hS3, hk3⟩
  have HS3 := Lib.hid (HS1.out.trans (Same0.of_ro ro3))
  have HB := Lib.hid (begin_c h3 (hk3 _ (by simp [Key.own]) (by simp)) 0 (by omega) none 0 0 [] rdl_nil (fun x hx => by simp at hx))
  have HL := Lib.hid (And.intro h3.sep.lt (show ∀ b, b < w.heap.size → S3 b from fun b hb => hS3 b (Nat.lt_of_lt_of_le hb HS1.out.size)))
  clear h3 ro3 hS3 hk3
  go_wp2_with fail
  refine HB.out.mono ?_
  rintro e w4 ⟨fv, sv, vv, S4, L4, rfl, hv, k4, ro4, hS4⟩
  obtain ⟨fA1, fn, fc1, sA, sn, sc, vA, vn, vc, rfl, rfl, rfl⟩ := hv.forms
  have hd := hv.put
  have hms : (⟨openC (M18 b) (I18 es).blocks.length cf0 ((0 : Nat) : Int) [], I18 es, none⟩ : Ms) = ms (st 0) := by rw [HC.out.1]; rfl
  rw [hms] at hd
  have HS4 := Lib.hid (And.intro (HS3.out.ro ro4 HL.out.2) (fun b hb => hS4 b (HL.out.2 b hb) : ∀ b, b < w.heap.size → S4 b))
  clear hms hv k4 ro4 hS4 HB
  go_upto_region 11 with (fail)
  refine all_worldC (fun W' => ∃ S5 L5, Sd W' S5 L5 0 w4.heap.size 0 iB (M18 b) (ms (st 0)) ∧ Below w4.heap.size w4 W' ∧ ∀ b, b < w.heap.size → S5 b) ⟨S4, _, hd, (Below.refl _ _).alloc (Nat.le_refl _) _, HS4.out.2⟩ ?_
  rintro w5 ⟨S5, L5, h5, hb5, hS5⟩
  clear hd
  have HS5 := Lib.hid (And.intro (HS4.out.1.trans (Same0.of_below hb5)) hS5)
  have H5 := Lib.hid h5
  generalize w4.heap.size = cB at h5 H5 ⊢
  clear hb5 hS5 h5
  go_wp2_with fail
  go_loopw [13] (fun i wr => ∃ j : Nat, j ≤ n ∧ i = .int .i64 j ∧ ToD w5 S5 L5 0 cB 0 iB (M18 b) wr (ms (st j))) (fun i _ => n - (intOf i).toNat)
  case atStart => exact ⟨0, Nat.zero_le _, rfl, ToD.refl H5.out⟩
  case round =>
    obtain ⟨j, hj, rfl, S1, L1, h1, k1, ro1, hS1⟩ := hrel
    have o2 := h1.over
    have H1 := Lib.hid (And.intro h1 (And.intro k1 (And.intro ro1 hS1)))
    by_cases hlt : j < n
    · have ho : (ms (st j)).c.ov = false := by
        obtain ⟨k, f, cd, t, a, x, F, e, _⟩ := HC.out.2.1 j hlt
        exact e
      rw [ho] at o2
      have d0 : decide ((j : Int) < 500) = true := decide_eq_true (by have := HC.out.2.2.1; omega)
      have hi : IntKind.i64.wrap ((j : Int) + 1) = (j : Int) + 1 := IntWalk.i64_in _ (by have := HC.out.2.2.1; omega)
      have HO := Lib.hid (one_s h1 (HC.out.2.1 j hlt))
      clear ho h1 k1 ro1 hS1
      go_wp2_with fail
      refine HO.out.mono ?_
      rintro e w2 ⟨rfl, ht⟩
      have HT := Lib.hid (ToD.trans H1.out.2.1 H1.out.2.2.1 H1.out.2.2.2 ht)
      clear ht
      go_wp2
      go_roundw
      case rel => exact ⟨j + 1, hlt, by go_num, HT.out⟩
      case measure => (simp [intOf]; try omega)
    · obtain rfl : j = n := by omega
      obtain ⟨vA, vc, v4, hva⟩ := h1.vals
      obtain ⟨fA, fc, sA, sc, vA', vc', g0, g1, g2, g3, g4⟩ := h1.five
      have hS := HS5.out.1.ro ro1 HS5.out.2
      rw [Nat.zero_add] at o2 g3 v4
      have HV := Lib.hid (And.intro hS hva)
      clear h1 k1 ro1 hS1 hlt g0 g1 g2 g4 hS hva
      have hov := HC.out.2.2.2.2.1
      cases ov with
      | true =>
        rw [show (ms (st j)).c.ov = true from hov] at o2
        have hv2 := HC.out.2.2.2.2.2 rfl
        rw [show (ms (st j)).c.er = er from hv2.1] at g3
        rw [show (ms (st j)).c.va = va from hv2.2] at v4 HV
        clear hov hv2
        have FIN := Lib.hid (show RanR w true er va (.returned (.tuple #[.slice vA va.length vc, .int .i64 er])) wr from ⟨HV.out.1, vA, vc, rfl, HV.out.2⟩)
        by_cases h5 : (j : Int) < 500
        · have d0 : decide ((j : Int) < 500) = true := decide_eq_true h5
          clear h5
          go_upto_region 17 with (fail)
          go_quiet (fail)
          go_wp2
          go_ret2
          exact FIN.out.drewN _
        · have d0 : decide ((j : Int) < 500) = false := decide_eq_false h5
          clear h5
          go_upto_region 17 with (fail)
          go_quiet (fail)
          go_wp2
          go_ret2
          exact FIN.out.drewN _
      | false =>
        rw [show (ms (st j)).c.ov = false from hov] at o2
        have hn5 : j = 500 := by
          rcases HC.out.2.2.2.1 with h | h
          · rw [hov] at h; cases h
          · exact h
        have d0 : decide ((j : Int) < 500) = false := decide_eq_false (by omega)
        clear hov hn5
        go_wp2
        go_ret2
        exact ⟨HV.out.1, rfl⟩
end Go.Proofs.YtmnebeikafigjaaGreatDoor
/- law18's num, and what gives does. -/
set_option linter.unusedVariables false
set_option linter.unusedSimpArgs false
namespace Go.Proofs.YtmnebeikafigjaaGreatDoor
open Go.RowKit Go.Sep Go.St
theorem infoIns18 : (Tryz.prog.info? 29).map (fun i => (i.zero, i.size, i.bytes)) = some (some (.agg #[.int .i64 0, .int .u32 0, .int .u32 0, .int .u64 0, .slice none 0 0, .int .i64 0]), 6, 56) := by kernel_rfl
def iFlat (l : List Ins) : List Value := (l.map iV).flatten
theorem iFlat_app (a b : List Ins) : iFlat (a ++ b) = iFlat a ++ iFlat b := by simp [iFlat]
theorem iFlat_len (l : List Ins) : (iFlat l).length = l.length * 6 := by
  induction l with
  | nil => rfl
  | cons x r ih => rw [show iFlat (x :: r) = iV x ++ iFlat r by simp [iFlat], List.length_append, ih, List.length_cons, Nat.succ_mul]; simp [iV]; omega
theorem iV_one (x : Ins) : ∀ u ∈ iV x, u.oneCell' = true := by
  intro u hu
  simp only [iV, List.mem_cons, List.not_mem_nil, or_false] at hu
  rcases hu with rfl | rfl | rfl | rfl | rfl | rfl <;> rfl
theorem iFlat_one (l : List Ins) : ∀ u ∈ iFlat l, u.oneCell' = true := by
  intro u hu
  simp only [iFlat, List.mem_flatten, List.mem_map] at hu
  obtain ⟨_, ⟨x, _, rfl⟩, hu⟩ := hu
  exact iV_one x u hu
theorem row_body {w : World} {e : Nat} {B : Option Addr} {n c : Nat} {l : List Ins} (h : Row w e 6 (.slice B n c) (iFlat l)) (hl : ∀ x ∈ l, x.l = []) : n = l.length ∧ RdL w (AllB w) 6 (InsR w (AllB w)) (.slice B n c) l := by
  refine ⟨?_, rdl_of_cells (css := l.map iV) (by omega) h (by simp) (fun cs hcs => by obtain ⟨x, _, rfl⟩ := List.mem_map.1 hcs; rfl) (fun k x cs hx hcs => by
    rw [List.getElem?_map, hx] at hcs
    cases hcs
    exact ⟨_, rfl, by rw [hl x (List.mem_of_getElem? hx)]; exact rdl_nil⟩)⟩
  obtain ⟨A, n', c', hv, h1, _⟩ := h
  cases hv
  rw [iFlat_len] at h1
  omega
set_option maxRecDepth 100000 in
theorem num_c (w : World) (n : Int) : Calls Tryz.prog 10 #[.int .u64 n] w fun e w' => e = .returned (.agg #[.int .i64 65, .int .u32 0, .int .u32 0, .int .u64 n, .slice none 0 0, .int .i64 0]) ∧ Still w w' := by
  go_enter Tryz.func10, Tryz.ntmps10
  go_wp2_with fail
  have q := (Still.refl w).alloc (.cells (iV (ins 65 0 n)).toArray 29)
  exact bodyPost_ret (v := .agg #[.int .i64 65, .int .u32 0, .int .u32 0, .int .u64 n, .slice none 0 0, .int .i64 0]) (by simp [results, Tryz.results10, go_sem, iV, ins]) rfl ⟨rfl, q⟩
set_option maxRecDepth 100000 in
theorem same_c (w : World) (x : Int) {A B : Option Addr} {c d : Nat} (ha : RdL w (AllB w) 1 (num1 .u64) (.slice A 1 c) [x]) (hb : RdL w (AllB w) 1 (num1 .u64) (.slice B 1 d) [x]) :
    Calls Tryz.prog 32 #[.slice A 1 c, .slice B 1 d] w fun e w' => e = .returned (.bool true) ∧ Still w w' := by
  obtain ⟨ab, ao, cs, rfl, _, hl, hr, hc⟩ := ha.get 0 x rfl
  obtain ⟨bb, bo, ds, rfl, _, hm, hs, hd⟩ := hb.get 0 x rfl
  cases hr
  cases hs
  have a0 := hc 0 _ rfl
  have b0 := hd 0 _ rfl
  simp only [Nat.zero_mul, Nat.add_zero] at a0 b0
  have HA := Lib.hid (And.intro a0 b0)
  clear ha hb hc hd hl hm a0 b0
  go_enter Tryz.func32, Tryz.ntmps32
  go_wp2_with fail
  go_loopw [5] (fun i wr => ∃ j : Nat, j ≤ 1 ∧ i = .int .i64 j ∧ Still w wr) (fun i _ => 1 - (intOf i).toNat)
  case atStart => exact ⟨0, by omega, rfl, Still.refl _⟩
  case round =>
    obtain ⟨j, hj, rfl, hw⟩ := hrel
    have HW := Lib.hid hw
    have : j = 0 ∨ j = 1 := by omega
    rcases this with rfl | rfl
    · have a0 := HW.out.cell HA.out.1
      have b0 := HW.out.cell HA.out.2
      have hz : ((0 : Nat) : Int) = 0 := rfl
      clear hw hj
      rw [hz]
      go_wp2_with fail
      go_quiet (fail)
      go_wp2
      go_roundw
      case rel => exact ⟨1, by omega, by go_num, HW.out.drewN _⟩
      case measure => (simp [intOf]; try omega)
    · have FIN := Lib.hid hw
      clear hw hj
      go_wp2_with fail
      go_ret
      exact ⟨rfl, FIN.out⟩
/-- What the worlds of gives' second region hold: the row that is made, the last instruction's block. -/
structure Gv (W w : World) (l : List Ins) (x : Option Nat) (v : Option Value) : Prop where
  bel : Below W.heap.size W w
  end_ : ∀ X, x = some X → Rd w 6 (some ⟨X, 0, none⟩) 1 (iV (ins 11)) ∧ X < w.heap.size
  row : ∀ v', v = some v' → Row w 29 6 v' (iFlat l) ∧ ∀ k, rowBlock v' = some k → W.heap.size ≤ k
variable {W w : World} {l : List Ins} {x : Option Nat} {v : Option Value}
theorem Gv.keep {w1 : World} (h : Gv W w l x v) (hb : Below w.heap.size w w1) : Gv W w1 l x v := by
  refine ⟨⟨hb.os.trans h.bel.os, hb.tape.trans h.bel.tape, hb.output.trans h.bel.output, Nat.le_trans h.bel.size hb.size, fun k hk => (hb.block k (Nat.lt_of_lt_of_le hk h.bel.size)).trans (h.bel.block k hk)⟩, fun X hX => ?_, fun v' hv => ?_⟩
  · obtain ⟨h1, h2⟩ := h.end_ X hX
    refine ⟨⟨h1.1, fun hp => ?_⟩, Nat.lt_of_lt_of_le h2 hb.size⟩
    obtain ⟨a, ha, hs, hc⟩ := h1.2 hp
    cases ha
    exact ⟨_, rfl, rfl, fun j u hu => by
      have := hc j u hu
      rw [show (Addr.mk X 0 none).add j = ⟨X, j, none⟩ by unfold Addr.add; split <;> simp_all] at this ⊢
      rw [hb.cell (p := ⟨X, j, none⟩) h2]
      exact this⟩
  · obtain ⟨h1, h2⟩ := h.row v' hv
    exact ⟨h1.move fun k hk => hb.block k (h1.lt hk), h2⟩
theorem Gv.alloc (h : Gv W w l x v) (o : Obj) : Gv W (w.alloc o) l x v := h.keep ((Below.refl _ _).alloc (Nat.le_refl _) o)
theorem Gv.last (h : Gv W w l none v) : Gv W (w.alloc (.cells (iV (ins 11)).toArray 29)) l (some w.heap.size) v := by
  have h1 := h.alloc (.cells (iV (ins 11)).toArray 29)
  refine ⟨h1.bel, fun X hX => ?_, h1.row⟩
  cases hX
  exact ⟨rd_new w (iV (ins 11)) rfl, by simp⟩
theorem Gv.made {w1 : World} {v0 v1 : Value} (h : Gv W w l x none) (h0 : rowBlock v0 = none) (hr : Row w1 29 6 v1 (iFlat l)) (hg : w.grownBy w1 (rowBlock v0)) (ha : rowBlock v1 = rowBlock v0 ∨ ∃ k, rowBlock v1 = some k ∧ w.heap.size ≤ k) : Gv W w1 l x (some v1) := by
  have hb : Below w.heap.size w w1 := (Below.refl _ _).grown hg (Nat.le_refl _) (fun k hk => by rw [h0] at hk; cases hk)
  have h1 := h.keep hb
  refine ⟨h1.bel, h1.end_, fun v' hv => ?_⟩
  cases hv
  refine ⟨hr, fun k hk => ?_⟩
  rcases ha with ha | ⟨k', e, hk'⟩
  · rw [ha, h0] at hk; cases hk
  · rw [e] at hk; cases hk; exact Nat.le_trans h.bel.size hk'
theorem Gv.done {w1 : World} {v0 v1 : Value} (h : Gv W w l x (some v0)) (hr : Row w1 29 6 v1 (iFlat l ++ iV (ins 11))) (hg : w.grownBy w1 (rowBlock v0)) : Below W.heap.size W w1 ∧ Row w1 29 6 v1 (iFlat (l ++ [ins 11])) :=
  ⟨h.bel.grown hg h.bel.size (fun k hk => (h.row v0 rfl).2 k hk), by rw [iFlat_app]; exact hr⟩
end Go.Proofs.YtmnebeikafigjaaGreatDoor
