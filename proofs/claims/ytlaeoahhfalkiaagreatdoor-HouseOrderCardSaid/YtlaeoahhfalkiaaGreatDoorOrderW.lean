/- The law HouseOrder: its call answers true. -/
import Derived.Test.YtlaeoahhfalkiaaGreatDoorOrderP
set_option linter.unusedVariables false
namespace Go.Vm.Ho
open Go.Vm Go.Proofs Go.RowKit
theorem begun_c (w : World) : Calls Tryz.prog 6 #[] w fun e w' => e = .returned (.bool true) ∧ Below w.heap.size w w' :=
  tree_calls (cx := cx0) hT_0 mixed_ok (hF_0 _) (by decide) (env := fun _ => 0) (d := .leaf (.c true)) run6 rfl (rel_nil _ w) .nil
/-- What a row of numbers holds, as long as what was there stays. -/
theorem row_get {k : IntKind} {W : World} {A : Option Addr} {len cap : Nat} {zs : List Int} (y : IsRow k W A len cap zs) : len ≤ cap ∧ ∀ j, j < len → ∃ x, A = some x ∧ (∀ w, Below W.heap.size W w → w.cell? (x.add j) = some (.int k (zs.getD j 0))) ∧ (Lit.int k (zs.getD j 0)).wf = true := by
  rcases y with ⟨rfl, rfl, rfl, rfl⟩ | ⟨x, rfl, hl, hm, hz, hcell, hwf⟩
  · exact ⟨Nat.le_refl _, fun j h => by omega⟩
  · refine ⟨hl, fun j hj => ⟨x, rfl, fun w hb => ?_, ?_⟩⟩
    · have hc := hcell j (by omega)
      rw [← hc]
      have hlt : (x.add j).block < W.heap.size := by
        rcases Nat.lt_or_ge (x.add j).block W.heap.size with h | h
        · exact h
        · exfalso
          simp only [World.cell?] at hc
          rw [Array.getElem?_eq_none h] at hc
          simp at hc
      exact World.cell?_of_block (hb.block _ hlt)
    · refine hwf _ ?_
      rw [List.getD_eq_getElem?_getD, List.getElem?_eq_getElem (by omega)]
      exact List.getElem_mem _
theorem u8_wf {z : Int} (h : (Lit.int .u8 z).wf = true) : 0 ≤ z ∧ z < 256 := by
  have r1 := (Lit.wf_int_iff _ _).1 h
  have m1 : IntKind.min .u8 = 0 := by decide
  have x1 : IntKind.max .u8 = 255 := by decide
  rw [m1, x1] at r1
  omega
theorem u64w (x : Int) (h : 0 ≤ x ∧ x < 256) : IntKind.u64.wrap x = x := by
  have := wrapF_eq .u64 x
  rw [wrap_u64] at this
  rw [← this]
  omega
theorem ev_bd {l0 l1 l2 l3 : Int} (h : (0 ≤ l0 ∧ l0 < 256) ∧ (0 ≤ l1 ∧ l1 < 256) ∧ (0 ≤ l2 ∧ l2 < 256) ∧ (0 ≤ l3 ∧ l3 < 256)) {j : Nat} (hj : j < 4) : 0 ≤ Ev l0 l1 l2 l3 0 j ∧ Ev l0 l1 l2 l3 0 j < 256 := by
  rcases (by omega : j = 0 ∨ j = 1 ∨ j = 2 ∨ j = 3) with rfl | rfl | rfl | rfl
  · exact h.1
  · exact h.2.1
  · exact h.2.2.1
  · exact h.2.2.2
theorem sum_step {l0 l1 l2 l3 : Int} {q : Nat} (h : q < 4) : sumI l0 l1 l2 l3 (q + 1) = sumI l0 l1 l2 l3 q + Ev l0 l1 l2 l3 0 q := by
  rcases (by omega : q = 0 ∨ q = 1 ∨ q = 2 ∨ q = 3) with rfl | rfl | rfl | rfl <;> simp [sumI, Ev]
theorem sum_bd {l0 l1 l2 l3 : Int} (h : (0 ≤ l0 ∧ l0 < 256) ∧ (0 ≤ l1 ∧ l1 < 256) ∧ (0 ≤ l2 ∧ l2 < 256) ∧ (0 ≤ l3 ∧ l3 < 256)) (q : Nat) : 0 ≤ sumI l0 l1 l2 l3 q ∧ sumI l0 l1 l2 l3 q < 1024 := by
  match q with
  | 0 => simp [sumI]
  | 1 => simp only [sumI]; omega
  | 2 => simp only [sumI]; omega
  | 3 => simp only [sumI]; omega
  | _ + 4 => simp only [sumI]; omega
set_option maxRecDepth 100000 in
set_option maxHeartbeats 2000000 in
theorem order_calls (A : Option Addr) (len cap : Nat) (zs : List Int) (A1 : Option Addr) (len1 cap1 : Nat) (zs1 : List Int) (W : World) (y : IsRow .u8 W A len cap zs) (y1 : IsRow .u8 W A1 len1 cap1 zs1) :
    Calls Tryz.prog 3 #[.slice A len cap, .slice A1 len1 cap1] W fun e W' => e = .returned (.bool true) ∧ Below W.heap.size W W' := by
  obtain ⟨hcap, G⟩ := row_get y
  obtain ⟨hcap1, G1⟩ := row_get y1
  clear y y1
  have HG := Lib.hid G
  have HG1 := Lib.hid G1
  clear G G1
  by_cases h4 : len ≤ 4 ∧ len1 ≤ 60
  · obtain ⟨h4, h60⟩ := h4
    have c4 : decide ((4 : Int) < (len : Int)) = false := decide_eq_false (by omega)
    have c60 : decide ((60 : Int) < (len1 : Int)) = false := decide_eq_false (by omega)
    obtain ⟨l0, l1, l2, l3, b0, b1, b2, b3, HL⟩ : ∃ l0 l1 l2 l3 : Int, (0 ≤ l0 ∧ l0 < 256) ∧ (0 ≤ l1 ∧ l1 < 256) ∧ (0 ≤ l2 ∧ l2 < 256) ∧ (0 ≤ l3 ∧ l3 < 256) ∧ Hid (∀ j, j < len → ∃ x, A = some x ∧ ∀ w, Below W.heap.size W w → w.cell? (x.add j) = some (.int .u8 (Ev l0 l1 l2 l3 0 j))) := by
      have e : ∀ i, ∃ l : Int, (0 ≤ l ∧ l < 256) ∧ (i < len → zs.getD i 0 = l) := by
        intro i
        by_cases hi : i < len
        · obtain ⟨x, _, _, hw⟩ := HG.out i hi
          exact ⟨_, u8_wf hw, fun _ => rfl⟩
        · exact ⟨0, by omega, fun h => absurd h hi⟩
      obtain ⟨l0, b0, e0⟩ := e 0
      obtain ⟨l1, b1, e1⟩ := e 1
      obtain ⟨l2, b2, e2⟩ := e 2
      obtain ⟨l3, b3, e3⟩ := e 3
      refine ⟨l0, l1, l2, l3, b0, b1, b2, b3, Lib.hid fun j hj => ?_⟩
      obtain ⟨x, hx, hc, _⟩ := HG.out j hj
      refine ⟨x, hx, fun w hb => ?_⟩
      rw [hc w hb]
      rcases (by omega : j = 0 ∨ j = 1 ∨ j = 2 ∨ j = 3) with rfl | rfl | rfl | rfl
      · rw [e0 hj, Ev]
      · rw [e1 hj, Ev]
      · rw [e2 hj, Ev]
      · rw [e3 hj, Ev]
    have HB := Lib.hid (And.intro b0 (And.intro b1 (And.intro b2 b3)))
    clear HG b0 b1 b2 b3
    go_enter Tryz.func3, Tryz.ntmps3
    go_wp2_with fail
    refine (begun_c _).mono ?_
    rintro e w1 ⟨rfl, hb1⟩
    go_wp2_with fail
    refine (tree_rel hT_b mixed_ok hF_b (by decide) New_r trivial (rel_nil (Ev l0 l1 l2 l3 0) w1) .nil).mono ?_
    rintro e w2 ⟨r, rfl, hb2, M2, k2, R2, v2⟩
    obtain ⟨hp, hM2, rfl⟩ := v2.ptr0
    go_wp2_with fail
    refine (tree_rel hT_b mixed_ok hF_b (by decide) Fixed_r trivial R2 .nil).mono ?_
    rintro e w3 ⟨r, rfl, hb3, M3, k3, R3, v3⟩
    have hM3 := k3 64 hp (by kernel_rfl) hM2
    go_wp2_with fail
    refine (tree_rel hT_b mixed_ok hF_b (by decide) Make_r trivial R3 (.cons _ _ _ _ (.p0 64 hp hM3) (.cons _ _ _ _ v3 (.cons _ _ _ _ (ofValue_ok _ _ rfl) .nil)))).mono ?_
    rintro e w4 ⟨r, rfl, hb4, M4, k4, R4, v4⟩
    have hM4 := k4 64 hp (by kernel_rfl) hM3
    obtain ⟨z0, z1, rfl, -, -⟩ := v4.tup2
    replace R4 : Rel (Ev l0 l1 l2 l3 0) (oldOf w1) M4 (TI 0) w4 := by
      have e : envS (envS (envS (Ev l0 l1 l2 l3 0) (sAt [.v 0, .v 1, .v 2, .v 3])) (sAt [.v 0, .v 1, .v 2, .v 3])) (sAt [.v 0, .v 1, .v 2, .v 3]) = Ev l0 l1 l2 l3 0 := by rw [ev_dn, ev_dn, ev_dn]
      rw [← e]; exact R4
    have hw := hb1.size
    have H4 := Lib.hid (And.intro R4 (And.intro hM4 (hb1.trans ((hb2.trans (hb3.trans hb4)).mono hw))))
    have HW := Lib.hid hw
    clear R2 R3 R4 k2 k3 k4 v2 v3 v4 hM2 hM3 hM4 hb1 hb2 hb3 hb4 hw
    go_wp2_with fail
    go_loopw [6] (fun i wr => ∃ j : Nat, j ≤ len ∧ i = .int .i64 j ∧ Below W.heap.size W wr ∧ ∃ M, M 64 = some hp ∧ Rel (Ev l0 l1 l2 l3 0) (oldOf w1) M (TI j) wr) (fun i _ => len - (intOf i).toNat)
    case atStart => exact ⟨0, Nat.zero_le _, rfl, H4.out.2.2, M4, H4.out.2.1, H4.out.1⟩
    case round =>
      obtain ⟨j, hj, rfl, hbr, M, hM, R⟩ := hrel
      have HR := Lib.hid (And.intro hbr (And.intro hM R))
      by_cases hlt : j < len
      · obtain ⟨x, rfl, hc⟩ := HL.out j hlt
        have cx := hc wr hbr
        have d0 : decide ((j : Int) < (len : Int)) = true := decide_eq_true (by omega)
        have hwj : IntKind.u64.wrap (Ev l0 l1 l2 l3 0 j) = Ev l0 l1 l2 l3 0 j := u64w _ (ev_bd HB.out (by omega))
        have hi1 : IntKind.i64.wrap ((j : Int) + 1) = (j : Int) + 1 := IntWalk.i64_in _ (by omega)
        clear hc hbr hM R
        go_wp2_with fail
        obtain ⟨b0, b1, b2, b3⟩ := HB.out
        obtain ⟨hbr, hM, R⟩ := HR.out
        refine (inv_c b0 b1 b2 b3 j (by omega) hM R _).mono ?_
        rintro e w' ⟨rfl, hb', M', hM', R'⟩
        have HN := Lib.hid (And.intro (hbr.trans (hb'.mono HW.out)) (And.intro hM' R'))
        clear b0 b1 b2 b3 hbr hM R hb' hM' R' cx
        go_wp2
        go_roundw
        case rel => exact ⟨j + 1, hlt, by go_num, HN.out.1, M', HN.out.2⟩
        case measure => (simp [intOf]; try omega)
      · obtain rfl : j = len := by omega
        have d0 : decide ((j : Int) < (j : Int)) = false := decide_eq_false (by omega)
        clear hbr hM R hlt
        go_wp2_with fail
        go_loopw [7, 8, 9] (fun s nx i wr => ∃ g q : Nat, (g ≤ 6 * j ∧ q = g / 6) ∧ s = .int .u64 (sumI l0 l1 l2 l3 q) ∧ nx = .int .i64 (q : Int) ∧ ∃ k : Nat, (k ≤ 200 ∧ k ≤ 60 + g) ∧ i = .int .i64 (k : Int) ∧ Below W.heap.size W wr ∧ (0 < j → ∃ M, M 64 = some hp ∧ Rel (Ev l0 l1 l2 l3 0) (oldOf w1) M (TS j g) wr)) (fun _ _ i _ => 200 - (intOf i).toNat)
        case atStart =>
          refine ⟨0, 0, ⟨Nat.zero_le _, rfl⟩, rfl, rfl, 0, by omega, rfl, HR.out.1, fun hj0 => ⟨M, HR.out.2.1, ?_⟩⟩
          have R := HR.out.2.2
          rcases (by omega : j = 1 ∨ j = 2 ∨ j = 3 ∨ j = 4) with rfl | rfl | rfl | rfl
          · exact R
          · exact R
          · exact R
          · exact R
        case round =>
          obtain ⟨g, q, hg, rfl, rfl, k, hk, rfl, hbr, hMM⟩ := hrel
          have HK := Lib.hid (And.intro hg (And.intro hk (And.intro hbr hMM)))
          by_cases hgo : k < 200 ∧ q < j
          · obtain ⟨M, hM, R⟩ := hMM (by omega)
            have HR2 := Lib.hid (And.intro hM R)
            have e0 : decide ((k : Int) < 200) = true := decide_eq_true (by omega)
            have e1 : decide ((q : Int) < (j : Int)) = true := decide_eq_true (by omega)
            have e1n : decide (q < j) = true := decide_eq_true (by omega)
            have HGo := Lib.hid hgo
            clear hM R hg hk hgo hMM
            by_cases hf : k < len1
            · have e2 : decide ((k : Int) < (len1 : Int)) = true := decide_eq_true (by omega)
              obtain ⟨x1, rfl, hc, hwf⟩ := HG1.out k hf
              have cx := hc wr hbr
              have hz := u8_wf hwf
              clear hc hwf hbr
              generalize zs1.getD k 0 = z at cx hz
              go_wp2_with fail
              obtain ⟨b0, b1, b2, b3⟩ := HB.out
              obtain ⟨ho1, ho2⟩ := HGo.out
              obtain ⟨⟨hg, hq⟩, ⟨hk1, hk2⟩, hbr, -⟩ := HK.out
              obtain ⟨hM, R⟩ := HR2.out
              refine (pk_all j g (by omega) h4 (by omega) l0 l1 l2 l3 (z % 9) b0 b1 b2 b3 (by omega) hp _ M wr hM R).mono ?_
              rintro e w' ⟨r, rfl, hb', g', M', hM', R', hgg, hng, hpp⟩
              have hk3 : k + 1 ≤ 60 + g' := by omega
              have hbw := hbr.trans (hb'.mono HW.out)
              rcases hpp with ⟨hsame, rfl⟩ | ⟨hnew, b, o, c, b2', o2, c2, hc1, hc2, rfl, d1, d2, d3⟩
              · have HN := Lib.hid (And.intro hbw (And.intro hM' R'))
                have HF := Lib.hid (And.intro hg (And.intro hq (And.intro hk1 (And.intro hk3 (And.intro hgg hsame)))))
                clear ho1 ho2 b0 b1 b2 b3 hg hq hk1 hk2 hbr hM R hb' hM' R' hgg hng hsame hbw hk3 cx hz
                have hi1 : IntKind.i64.wrap ((k : Int) + 1) = (k : Int) + 1 := IntWalk.i64_in _ (by have := HF.out.2.2.1; omega)
                go_wp2
                go_roundw
                case rel =>
                  obtain ⟨hg, hq, hk1, hk3, hgg, hsame⟩ := HF.out
                  have ho := HGo.out
                  exact ⟨g', q, ⟨by omega, by omega⟩, rfl, rfl, k + 1, ⟨by have := HGo.out.1; omega, hk3⟩, by go_num, HN.out.1, fun _ => ⟨M', HN.out.2⟩⟩
                case measure => (simp [intOf]; try (have := HGo.out.1; omega))
              · rw [← hq] at d1 d3 hnew
                obtain ⟨x, rfl, hcq⟩ := HL.out q ho2
                have cq := hcq w' hbw
                have hbd := ev_bd HB.out (j := q) (by omega)
                have hsb := sum_bd HB.out q
                have hwq : IntKind.u64.wrap (Ev l0 l1 l2 l3 0 q) = Ev l0 l1 l2 l3 0 q := u64w _ hbd
                have hws : IntKind.u64.wrap (sumI l0 l1 l2 l3 q + Ev l0 l1 l2 l3 0 q) = sumI l0 l1 l2 l3 q + Ev l0 l1 l2 l3 0 q := IntWalk.u64_in _ (by omega)
                have hwn : IntKind.u64.wrap (q : Int) = (q : Int) := IntWalk.u64_in _ (by omega)
                have hi1 : IntKind.i64.wrap ((k : Int) + 1) = (k : Int) + 1 := IntWalk.i64_in _ (by omega)
                have hi2 : IntKind.i64.wrap ((q : Int) + 1) = (q : Int) + 1 := IntWalk.i64_in _ (by omega)
                rw [sum_step (by omega)] at d3
                have HN := Lib.hid (And.intro hbw (And.intro hM' R'))
                have HF := Lib.hid (And.intro hg (And.intro hq (And.intro hk1 (And.intro hk3 (And.intro hgg (And.intro hnew (sum_step (l0 := l0) (l1 := l1) (l2 := l2) (l3 := l3) (q := q) (by omega))))))))
                clear ho1 b0 b1 b2 b3 hg hq hk1 hk2 hbr hM R hb' hM' R' hgg hng hnew hbw hk3 hcq hbd hsb cx hz
                have hc1' : decide ((0 : Int) < 1) = true := by decide
                go_wp2
                go_roundw
                case rel =>
                  obtain ⟨hg, hq, hk1, hk3, hgg, hnew, hst⟩ := HF.out
                  have ho := HGo.out
                  exact ⟨g', q + 1, ⟨by omega, by omega⟩, by rw [hst], by go_num, k + 1, ⟨by omega, hk3⟩, by go_num, HN.out.1, fun _ => ⟨M', HN.out.2⟩⟩
                case measure => (simp [intOf]; try (have := HGo.out.1; omega))
            · have e2 : decide ((k : Int) < (len1 : Int)) = false := decide_eq_false (by omega)
              have e2n : decide (k < len1) = false := decide_eq_false (by omega)
              clear hbr
              go_wp2_with fail
              obtain ⟨b0, b1, b2, b3⟩ := HB.out
              obtain ⟨ho1, ho2⟩ := HGo.out
              obtain ⟨⟨hg, hq⟩, ⟨hk1, hk2⟩, hbr, -⟩ := HK.out
              obtain ⟨hM, R⟩ := HR2.out
              refine (pk_all j g (by omega) h4 (by omega) l0 l1 l2 l3 1 b0 b1 b2 b3 (by omega) hp _ M wr hM R).mono ?_
              rintro e w' ⟨r, rfl, hb', g', M', hM', R', hgg, hng, hpp⟩
              have hk3 : k + 1 ≤ 60 + g' := by omega
              have hbw := hbr.trans (hb'.mono HW.out)
              rcases hpp with ⟨hsame, rfl⟩ | ⟨hnew, b, o, c, b2', o2, c2, hc1, hc2, rfl, d1, d2, d3⟩
              · have HN := Lib.hid (And.intro hbw (And.intro hM' R'))
                have HF := Lib.hid (And.intro hg (And.intro hq (And.intro hk1 (And.intro hk3 (And.intro hgg hsame)))))
                clear ho1 ho2 b0 b1 b2 b3 hg hq hk1 hk2 hbr hM R hb' hM' R' hgg hng hsame hbw hk3 
                have hi1 : IntKind.i64.wrap ((k : Int) + 1) = (k : Int) + 1 := IntWalk.i64_in _ (by have := HF.out.2.2.1; omega)
                go_wp2
                go_roundw
                case rel =>
                  obtain ⟨hg, hq, hk1, hk3, hgg, hsame⟩ := HF.out
                  have ho := HGo.out
                  exact ⟨g', q, ⟨by omega, by omega⟩, rfl, rfl, k + 1, ⟨by have := HGo.out.1; omega, hk3⟩, by go_num, HN.out.1, fun _ => ⟨M', HN.out.2⟩⟩
                case measure => (simp [intOf]; try (have := HGo.out.1; omega))
              · rw [← hq] at d1 d3 hnew
                obtain ⟨x, rfl, hcq⟩ := HL.out q ho2
                have cq := hcq w' hbw
                have hbd := ev_bd HB.out (j := q) (by omega)
                have hsb := sum_bd HB.out q
                have hwq : IntKind.u64.wrap (Ev l0 l1 l2 l3 0 q) = Ev l0 l1 l2 l3 0 q := u64w _ hbd
                have hws : IntKind.u64.wrap (sumI l0 l1 l2 l3 q + Ev l0 l1 l2 l3 0 q) = sumI l0 l1 l2 l3 q + Ev l0 l1 l2 l3 0 q := IntWalk.u64_in _ (by omega)
                have hwn : IntKind.u64.wrap (q : Int) = (q : Int) := IntWalk.u64_in _ (by omega)
                have hi1 : IntKind.i64.wrap ((k : Int) + 1) = (k : Int) + 1 := IntWalk.i64_in _ (by omega)
                have hi2 : IntKind.i64.wrap ((q : Int) + 1) = (q : Int) + 1 := IntWalk.i64_in _ (by omega)
                rw [sum_step (by omega)] at d3
                have HN := Lib.hid (And.intro hbw (And.intro hM' R'))
                have HF := Lib.hid (And.intro hg (And.intro hq (And.intro hk1 (And.intro hk3 (And.intro hgg (And.intro hnew (sum_step (l0 := l0) (l1 := l1) (l2 := l2) (l3 := l3) (q := q) (by omega))))))))
                clear ho1 b0 b1 b2 b3 hg hq hk1 hk2 hbr hM R hb' hM' R' hgg hng hnew hbw hk3 hcq hbd hsb 
                have hc1' : decide ((0 : Int) < 1) = true := by decide
                go_wp2
                go_roundw
                case rel =>
                  obtain ⟨hg, hq, hk1, hk3, hgg, hnew, hst⟩ := HF.out
                  have ho := HGo.out
                  exact ⟨g', q + 1, ⟨by omega, by omega⟩, by rw [hst], by go_num, k + 1, ⟨by omega, hk3⟩, by go_num, HN.out.1, fun _ => ⟨M', HN.out.2⟩⟩
                case measure => (simp [intOf]; try (have := HGo.out.1; omega))
          · have hq : j = q ∨ ¬ k < 200 := by omega
            clear hMM
            by_cases h2 : k < 200
            · obtain rfl : j = q := by omega
              have e0 : decide ((k : Int) < 200) = true := decide_eq_true (by omega)
              have e1 : decide ((j : Int) < (j : Int)) = false := decide_eq_false (by omega)
              have e1n : decide (j < j) = false := decide_eq_false (by omega)
              clear hbr hq hgo hg hk
              go_wp2
              go_ret
              exact ⟨rfl, HK.out.2.2.1⟩
            · exfalso
              omega
  · by_cases h5 : 4 < len
    · have c4 : decide ((4 : Int) < (len : Int)) = true := decide_eq_true (by omega)
      go_enter Tryz.func3, Tryz.ntmps3
      go_wp2_with fail
      refine (begun_c _).mono ?_
      rintro e w1 ⟨rfl, hb1⟩
      go_wp2
      go_ret
      exact ⟨rfl, hb1⟩
    · have c4 : decide ((4 : Int) < (len : Int)) = false := decide_eq_false (by omega)
      have c60 : decide ((60 : Int) < (len1 : Int)) = true := decide_eq_true (by omega)
      go_enter Tryz.func3, Tryz.ntmps3
      go_wp2_with fail
      refine (begun_c _).mono ?_
      rintro e w1 ⟨rfl, hb1⟩
      go_wp2
      go_ret
      exact ⟨rfl, hb1⟩
end Go.Vm.Ho
