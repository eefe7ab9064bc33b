-- From a text of the print of the kit over this seat: two functions of it.
import Derived.Test.YtfjnhdbbjggkmaaPTableGrowsx0
namespace Go.Proofs.Ytfjnhdbbjggkmaa.PTableGrows
open Go.RowKit Go.Proofs.YtfjnhdbbjggkmaaW.PrintWords Go.Proofs.YtfjnhdbbjggkmaaW.PrintLast Go.Proofs.YtfjnhdbbjggkmaaW.PrintMore
attribute [local go_sem] max2_int min2_int max_two min_two max_three min_three max_four min_four   -- for this text's walks alone
set_option linter.unusedVariables false
set_option linter.unusedSimpArgs false

/-! ### cloakroomref13_low: function 31 -/
def cloakroomref13_low.f (a0 : Int) : Option (Int) := some (Go.bits .and .u64 a0 4294967295)
set_option maxHeartbeats 8000000 in
set_option maxRecDepth 100000 in
theorem cloakroomref13_low.calls (a0 : Int) (r : Int) (w : World) (h : cloakroomref13_low.f a0 = some r) :
    Calls Try.prog 31 #[.int .u64 a0] w fun e w' => e = .returned (.int .u64 r) ∧ Drawn0 w w' := by
  have H : (some (Go.bits .and .u64 a0 4294967295)) = some r := h
  clear h
  obtain rfl := Option.some.inj H
  go_enter Try.func31, Try.ntmps31
  go_wp2
  go_ret
  exact ⟨by first | rfl | (simp; done) | (simp [*]; done), by repeat (first | exact Drawn0.refl _ | apply Drawn0.step)⟩

/-! ### cloakroomref13_GrowTable: function 25 -/
mutual
def cloakroomref13_GrowTable.j0 : Nat → List Int → Int → Int → Bool → Option (List Int × Bool)
  | 0, _, _, _, _ => none
  | k + 1, x0, x1, x10, x30 => if x30 = true then (some (([] : List Int), false)) else ((some (([] : List Int) : List Int)).bind fun y131 => (if y131.length + x0.length < 17592186044416 then (cloakroomref13_GrowTable.l0 k x1 x10 (y131 ++ x0)) else (none)))
def cloakroomref13_GrowTable.l0 : Nat → Int → Int → List Int → Option (List Int × Bool)
  | 0, _, _, _ => none
  | k + 1, x1, x10, x11 => if (IntKind.u64.wrap ((x11.length : Int))) < x10 then (if x11.length < 17592186044416 then (cloakroomref13_GrowTable.l0 k x1 x10 (x11 ++ [x1])) else (none)) else (some (x11, true))
end
def cloakroomref13_GrowTable.f (k : Nat) (l0 : List Int) (a1 : Int) (a2 : Int) (a3_0 : Int) (a3_1 : Int) (a3_2 : Bool) : Option (List Int × Bool) := (cloakroomref13_low.f a2).bind fun t130 => (if (IntKind.u64.wrap ((IntKind.u64.wrap ((l0.length : Int))) + t130)) > 64 then (cloakroomref13_GrowTable.j0 k l0 a1 (IntKind.u64.wrap ((IntKind.u64.wrap ((l0.length : Int))) + t130)) true) else (if a3_2 = true then (cloakroomref13_GrowTable.j0 k l0 a1 (IntKind.u64.wrap ((IntKind.u64.wrap ((l0.length : Int))) + t130)) (decide ((IntKind.u64.wrap ((IntKind.u64.wrap ((l0.length : Int))) + t130)) > (IntKind.u64.wrap (a3_1))))) else (cloakroomref13_GrowTable.j0 k l0 a1 (IntKind.u64.wrap ((IntKind.u64.wrap ((l0.length : Int))) + t130)) false)))
theorem cloakroomref13_GrowTable.mono_l : ∀ k, (∀ y0 y1 y2 y3, LeO (cloakroomref13_GrowTable.j0 k y0 y1 y2 y3) (cloakroomref13_GrowTable.j0 (k + 1) y0 y1 y2 y3)) ∧ (∀ y0 y1 y2, LeO (cloakroomref13_GrowTable.l0 k y0 y1 y2) (cloakroomref13_GrowTable.l0 (k + 1) y0 y1 y2))
  | 0 => ⟨fun _ _ _ _ r h => by simp [cloakroomref13_GrowTable.j0] at h, fun _ _ _ r h => by simp [cloakroomref13_GrowTable.l0] at h⟩
  | k + 1 => by
    obtain ⟨ih0, ih1⟩ := cloakroomref13_GrowTable.mono_l k
    refine ⟨?_, ?_⟩
    · intro y0 y1 y2 y3
      unfold cloakroomref13_GrowTable.j0
      repeat' first
      | (with_reducible exact ih0 _ _ _ _)
      | (with_reducible exact ih1 _ _ _)
      | (with_reducible exact LeO.refl _)
      | (with_reducible exact LeO.none _)
      | (with_reducible refine LeO.ite ?_ ?_)
      | (with_reducible refine LeO.bind ?_ (fun _ => ?_))
      | exact ih0 _ _ _ _
      | exact ih1 _ _ _
      | exact LeO.none _
      | refine LeO.ite ?_ ?_
      | refine LeO.bind ?_ (fun _ => ?_)
    · intro y0 y1 y2
      unfold cloakroomref13_GrowTable.l0
      repeat' first
      | (with_reducible exact ih0 _ _ _ _)
      | (with_reducible exact ih1 _ _ _)
      | (with_reducible exact LeO.refl _)
      | (with_reducible exact LeO.none _)
      | (with_reducible refine LeO.ite ?_ ?_)
      | (with_reducible refine LeO.bind ?_ (fun _ => ?_))
      | exact ih0 _ _ _ _
      | exact ih1 _ _ _
      | exact LeO.none _
      | refine LeO.ite ?_ ?_
      | refine LeO.bind ?_ (fun _ => ?_)
theorem cloakroomref13_GrowTable.mono : ∀ a0 a1 a2 a3 a4 a5 k, LeO (cloakroomref13_GrowTable.f k a0 a1 a2 a3 a4 a5) (cloakroomref13_GrowTable.f (k + 1) a0 a1 a2 a3 a4 a5) := by
  intro a0 a1 a2 a3 a4 a5 k
  obtain ⟨ih0, ih1⟩ := cloakroomref13_GrowTable.mono_l k
  unfold cloakroomref13_GrowTable.f
  repeat' first
      | (with_reducible exact ih0 _ _ _ _)
      | (with_reducible exact ih1 _ _ _)
      | (with_reducible exact LeO.refl _)
      | (with_reducible exact LeO.none _)
      | (with_reducible refine LeO.ite ?_ ?_)
      | (with_reducible refine LeO.bind ?_ (fun _ => ?_))
      | exact ih0 _ _ _ _
      | exact ih1 _ _ _
      | exact LeO.none _
      | refine LeO.ite ?_ ?_
      | refine LeO.bind ?_ (fun _ => ?_)
set_option maxHeartbeats 8000000 in
set_option maxRecDepth 100000 in
theorem cloakroomref13_GrowTable.calls (k : Nat) (A0 : Option Addr) (c0 : Nat) (l0 : List Int) (a1 : Int) (a2 : Int) (a3_0 : Int) (a3_1 : Int) (a3_2 : Bool) (r1 : List Int) (r2 : Bool) (w : World) (hr0 : Kd.C (Kd.int .u64) w A0 l0.length l0) (hc0 : l0.length ≤ c0) (h : cloakroomref13_GrowTable.f k l0 a1 a2 a3_0 a3_1 a3_2 = some (r1, r2)) :
    Calls Try.prog 25 #[.slice A0 l0.length c0, .int .u64 a1, .int .u64 a2, .agg #[.int .u32 a3_0, .int .u32 a3_1, .bool a3_2]] w fun e w' => ∃ v0_ : Value, e = .returned (.tuple #[v0_, .bool r2]) ∧ Kd.R (Kd.int .u64) 23 w' w.heap.size (fun _ => True) v0_ r1 ∧ Below w.heap.size w w' := by
  have hu36 := Try.underlying36
  have HR0 := Aside0.mk hr0
  have HC0 := Aside0.mk hc0
  clear hr0 hc0
  have HB := Aside0.mk (Below.refl w.heap.size w)
  have H : ((cloakroomref13_low.f a2).bind fun t130 => (if (IntKind.u64.wrap ((IntKind.u64.wrap ((l0.length : Int))) + t130)) > 64 then (cloakroomref13_GrowTable.j0 k l0 a1 (IntKind.u64.wrap ((IntKind.u64.wrap ((l0.length : Int))) + t130)) true) else (if a3_2 = true then (cloakroomref13_GrowTable.j0 k l0 a1 (IntKind.u64.wrap ((IntKind.u64.wrap ((l0.length : Int))) + t130)) (decide ((IntKind.u64.wrap ((IntKind.u64.wrap ((l0.length : Int))) + t130)) > (IntKind.u64.wrap (a3_1))))) else (cloakroomref13_GrowTable.j0 k l0 a1 (IntKind.u64.wrap ((IntKind.u64.wrap ((l0.length : Int))) + t130)) false)))) = some (r1, r2) := h
  clear h
  replace H := Option.bind_eq_some_iff.mp H
  obtain ⟨t130, A50, H⟩ := H
  replace H : (if (IntKind.u64.wrap ((IntKind.u64.wrap ((l0.length : Int))) + t130)) > 64 then (cloakroomref13_GrowTable.j0 k l0 a1 (IntKind.u64.wrap ((IntKind.u64.wrap ((l0.length : Int))) + t130)) true) else (if a3_2 = true then (cloakroomref13_GrowTable.j0 k l0 a1 (IntKind.u64.wrap ((IntKind.u64.wrap ((l0.length : Int))) + t130)) (decide ((IntKind.u64.wrap ((IntKind.u64.wrap ((l0.length : Int))) + t130)) > (IntKind.u64.wrap (a3_1))))) else (cloakroomref13_GrowTable.j0 k l0 a1 (IntKind.u64.wrap ((IntKind.u64.wrap ((l0.length : Int))) + t130)) false))) = some (r1, r2) := H
  have A5 := Aside0.mk A50
  clear A50
  have HC6 := Aside0.mk H
  clear H
  go_enter Try.func25, Try.ntmps25
  go_upto_region 2 with (first | ((with_reducible refine gate_dst (N := 7) rfl ?_); refine box_event ?hg (N := 7) ?hd (cs := #[.int .u32 a3_0, .int .u32 a3_1, .bool a3_2]) (t := 36) ?hr ?_; (case hd => rfl); (case hg => rfl); (case hr => first | (go_simp; done) | (go_simp; rfl)); intro gb129 hg w7 hbox hb; have n0_ := Aside0.mk (below_step (by repeat (first | (with_reducible first | exact HB.out | apply below_alloc | apply pw_below_drewN | apply below_drew1) | exact HB.out)) hb); have n1_ := Aside0.mk (hbox); have n2_ := Aside0.mk ((by rw [hg]; exact (below_size (by repeat (first | (with_reducible first | exact HB.out | apply below_alloc | apply pw_below_drewN | apply below_drew1) | exact HB.out))) : w.heap.size ≤ gb129)); have n3_ := Aside0.mk ((by rw [hg]; exact (below_size (by repeat (first | (with_reducible first | exact HB.out | apply below_alloc | apply pw_below_drewN | apply below_drew1) | exact HB.out))) : w.heap.size ≤ gb129)); clear HB; have HB := n0_; have BK129 := n1_; have GW129 := n2_; have GE129 := n3_; clear n0_ n1_ n2_ n3_; clear hb hbox hg) | ((with_reducible refine gate_callee (f := 31) rfl ?_); refine goesL_ (some 16) rfl rfl Try.func31 (by kernel_rfl) rfl #[.int .u64 a2] rfl (by (try simp only [List.map_toArray, List.map_cons, List.map_nil]); first | done | rfl | (simp only [List.length_drop, List.length_take]; rfl)) ?_; (with_reducible refine (cloakroomref13_low.calls a2 t130 _ A5.out).mono ?_); rintro e w' ⟨rfl, ⟨nd, rfl⟩⟩; refine ⟨_, rfl, ?_⟩))
  (try simp only [Act.put, List.setIfInBounds_toArray, List.set_cons_zero, List.set_cons_succ])
  go_cut [30] (fun v30 wc => ∃ (kq : Nat) (x30_5 : Bool), v30 = .bool x30_5 ∧ Aside0 (cloakroomref13_GrowTable.j0 kq l0 a1 (IntKind.u64.wrap ((IntKind.u64.wrap ((l0.length : Int))) + t130)) x30_5 = some (r1, r2)) ∧ Aside0 (kq ≤ k) ∧ Aside0 (wc.heap[gb129]? = some (.cells #[.int .u32 a3_0, .int .u32 a3_1, .bool a3_2] 36 (0, 0))) ∧ Aside0 (Below w.heap.size w wc))
  case first =>
    have H := HC6.out
    clear HC6
    by_cases c8 : (IntKind.u64.wrap ((IntKind.u64.wrap ((l0.length : Int))) + t130)) > 64
    · rw [if_pos c8] at H
      have c8b0 : decide (64 < (IntKind.u64.wrap ((IntKind.u64.wrap ((l0.length : Int))) + t130))) = true := decide_eq_true c8
      clear c8
      (first | rw [c8b0] | (simp only [i64_w, i32_w]; rw [c8b0]) | skip)
      have H' := Aside0.mk H
      clear H
      go_wp2
      go_meet
      case rel => exact ⟨_, (true), (by first | rfl | (simp; done) | (simp [*]; done)), H', ⟨by first | omega | exact Nat.le_refl _⟩, ⟨by (with_reducible repeat (first | refine blk_drewN ?_ _ | refine blk_drew ?_ | refine blk_alloc ?_ _)); exact BK129.out⟩, ⟨by repeat (first | (with_reducible first | exact HB.out | apply below_alloc | apply pw_below_drewN | apply below_drew1 | refine below_set ?_ GE129.out) | exact HB.out)⟩⟩
    · rw [if_neg c8] at H
      have c8b0 : decide (64 < (IntKind.u64.wrap ((IntKind.u64.wrap ((l0.length : Int))) + t130))) = false := decide_eq_false c8
      clear c8
      (first | rw [c8b0] | (simp only [i64_w, i32_w]; rw [c8b0]) | skip)
      by_cases c9 : a3_2 = true
      · subst c9
        have H1 : (cloakroomref13_GrowTable.j0 k l0 a1 (IntKind.u64.wrap ((IntKind.u64.wrap ((l0.length : Int))) + t130)) (decide ((IntKind.u64.wrap ((IntKind.u64.wrap ((l0.length : Int))) + t130)) > (IntKind.u64.wrap (a3_1))))) = some (r1, r2) := by rw [if_pos rfl] at H; exact H
        clear H
        have H := H1
        clear H1
        have H' := Aside0.mk H
        clear H
        have hcz10_0 : w7.cell? ⟨gb129, 0, none⟩ = some (.int .u32 a3_0) := (blk_cell BK129.out 0).trans rfl
        have hcz10_1 : w7.cell? ⟨gb129, 1, none⟩ = some (.int .u32 a3_1) := (blk_cell BK129.out 1).trans rfl
        have hcz10_2 : w7.cell? ⟨gb129, 2, none⟩ = some (.bool true) := (blk_cell BK129.out 2).trans rfl
        have hfz10_0 := blk_frozen BK129.out 0
        have hfz10_1 := blk_frozen BK129.out 1
        have hfz10_2 := blk_frozen BK129.out 2
        go_wp2
        go_meet
        case rel => exact ⟨_, (decide ((IntKind.u64.wrap ((IntKind.u64.wrap ((l0.length : Int))) + t130)) > (IntKind.u64.wrap (a3_1)))), (by first | rfl | (simp; done) | (simp [*]; done)), H', ⟨by first | omega | exact Nat.le_refl _⟩, ⟨by (with_reducible repeat (first | refine blk_drewN ?_ _ | refine blk_drew ?_ | refine blk_alloc ?_ _)); exact BK129.out⟩, ⟨by repeat (first | (with_reducible first | exact HB.out | apply below_alloc | apply pw_below_drewN | apply below_drew1 | refine below_set ?_ GE129.out) | exact HB.out)⟩⟩
      · replace c9 := Bool.eq_false_iff.mpr c9
        subst c9
        have H1 : (cloakroomref13_GrowTable.j0 k l0 a1 (IntKind.u64.wrap ((IntKind.u64.wrap ((l0.length : Int))) + t130)) false) = some (r1, r2) := by rw [if_neg (show ¬ (false = true) by decide)] at H; exact H
        clear H
        have H := H1
        clear H1
        have H' := Aside0.mk H
        clear H
        have hcz11_0 : w7.cell? ⟨gb129, 0, none⟩ = some (.int .u32 a3_0) := (blk_cell BK129.out 0).trans rfl
        have hcz11_1 : w7.cell? ⟨gb129, 1, none⟩ = some (.int .u32 a3_1) := (blk_cell BK129.out 1).trans rfl
        have hcz11_2 : w7.cell? ⟨gb129, 2, none⟩ = some (.bool false) := (blk_cell BK129.out 2).trans rfl
        have hfz11_0 := blk_frozen BK129.out 0
        have hfz11_1 := blk_frozen BK129.out 1
        have hfz11_2 := blk_frozen BK129.out 2
        go_wp2
        go_meet
        case rel => exact ⟨_, (false), (by first | rfl | (simp; done) | (simp [*]; done)), H', ⟨by first | omega | exact Nat.le_refl _⟩, ⟨by (with_reducible repeat (first | refine blk_drewN ?_ _ | refine blk_drew ?_ | refine blk_alloc ?_ _)); exact BK129.out⟩, ⟨by repeat (first | (with_reducible first | exact HB.out | apply below_alloc | apply pw_below_drewN | apply below_drew1 | refine below_set ?_ GE129.out) | exact HB.out)⟩⟩
  case rest =>
    clear HC6
    try clear c2
    try clear p2
    try clear c3
    try clear c8
    try clear c8b0
    try clear c9
    try clear hcz10_0
    try clear hcz10_1
    try clear hcz10_2
    try clear hcz11_0
    try clear hcz11_1
    try clear hcz11_2
    try clear hfz10_0
    try clear hfz10_1
    try clear hfz10_2
    try clear hfz11_0
    try clear hfz11_1
    try clear hfz11_2
    obtain ⟨kq, x30_5, rfl, HA, HJ5, BK129, HB⟩ := hcut
    cases kq with
    | zero => exact absurd HA.out (by simp [cloakroomref13_GrowTable.j0])
    | succ kj5 =>
      have H := HA.out
      clear HA
      simp only [cloakroomref13_GrowTable.j0] at H
      by_cases c12 : x30_5 = true
      · subst c12
        have H1 : (some (([] : List Int), false)) = some (r1, r2) := by rw [if_pos rfl] at H; exact H
        clear H
        have H := H1
        clear H1
        simp only [Option.some.injEq, Prod.mk.injEq] at H
        obtain ⟨rfl, rfl⟩ := H
        go_wp2
        go_ret2
        exact ⟨_, by first | rfl | (simp [errW_none, errW_some] <;> rfl) | (simp [*, errW_none, errW_some] <;> rfl), by first | exact Kd.R_nil _ _ _ _ _ | exact Kd.N_nil _ _ _ _ _ | exact Kd.V_nil _ _ _ _ _ | exact Kd.Q_nil _ _ _ _ _ | exact Kd.S_nil _ _ _ _ _, by repeat (first | (with_reducible first | exact HB.out | apply below_alloc | apply pw_below_drewN | apply below_drew1 | refine below_set ?_ GE129.out) | exact HB.out)⟩
      · replace c12 := Bool.eq_false_iff.mpr c12
        subst c12
        have H1 : ((some (([] : List Int) : List Int)).bind fun y131 => (if y131.length + l0.length < 17592186044416 then (cloakroomref13_GrowTable.l0 kj5 a1 (IntKind.u64.wrap ((IntKind.u64.wrap ((l0.length : Int))) + t130)) (y131 ++ l0)) else (none))) = some (r1, r2) := by rw [if_neg (show ¬ (false = true) by decide)] at H; exact H
        clear H
        have H := H1
        clear H1
        obtain ⟨y131, hy131⟩ : ∃ y_ : List Int, y_ = (([] : List Int)) := ⟨_, rfl⟩
        replace H : (if y131.length + l0.length < 17592186044416 then (cloakroomref13_GrowTable.l0 kj5 a1 (IntKind.u64.wrap ((IntKind.u64.wrap ((l0.length : Int))) + t130)) (y131 ++ l0)) else (none)) = some (r1, r2) := by first | (rw [hy131]; with_reducible exact H) | (have H2_ := (Option.bind_some _ _).symm.trans H; rw [hy131]; with_reducible exact H2_) | (have H2_ := (Option.bind_some _ _).symm.trans H; with_reducible exact H2_) | with_reducible exact H | (rw [hy131]; exact H) | exact H
        have Ny131 := Aside0.mk hy131
        clear hy131
        by_cases c13 : y131.length + l0.length < 17592186044416
        · rw [if_pos c13] at H
          have LMc13 := Aside0.mk c13
          clear c13
          obtain ⟨y134, hy134⟩ : ∃ y_ : List Int, y_ = (y131 ++ l0) := ⟨_, rfl⟩
          replace H : (cloakroomref13_GrowTable.l0 kj5 a1 (IntKind.u64.wrap ((IntKind.u64.wrap ((l0.length : Int))) + t130)) y134) = some (r1, r2) := by first | (rw [hy134]; with_reducible exact H) | (have H2_ := (Option.bind_some _ _).symm.trans H; rw [hy134]; with_reducible exact H2_) | (have H2_ := (Option.bind_some _ _).symm.trans H; with_reducible exact H2_) | with_reducible exact H | (rw [hy134]; exact H) | exact H
          have Ny134 := Aside0.mk hy134
          clear hy134
          have H' := Aside0.mk H
          clear H
          go_wp2_with (first | ((with_reducible refine gate_dst (N := 31) rfl ?_); refine Kd.R_lit (Kd.int .u64) _ 23 ?hg (N := 31) ?hd (xs := ([] : List Int)) (inner := []) (ok := fun _ => True) (okp := fun _ => True) ?hr ?hp (fun _ hk => hk) trivial (Below.refl _ _) (Nat.le_refl _) (by simp) ?_; (case hd => rfl); (case hg => rfl); (case hr => first | (go_simp; done) | (go_simp; rfl)); (case hp => exact (Reps.none _ _)); intro v132 w14 ho15 hb hg_ hnew_; clear hg_ hnew_; (first | rw [← Ny131.out] at ho15 | (simp only [Int.reduceToNat] at ho15; rw [← Ny131.out] at ho15)); have n0_ := Aside0.mk (Kd.R_lower ho15 (below_size (by repeat (first | (with_reducible first | exact HB.out | apply below_alloc | apply pw_below_drewN | apply below_drew1 | refine below_set ?_ GE129.out) | exact HB.out)))); have n1_ := Aside0.mk (blk_below (g := gb129) (o := .cells #[.int .u32 a3_0, .int .u32 a3_1, .bool a3_2] 36 (0, 0)) (by (with_reducible repeat (first | refine blk_drewN ?_ _ | refine blk_drew ?_ | refine blk_alloc ?_ _)); exact BK129.out) hb); have n2_ := Aside0.mk (below_step (by repeat (first | (with_reducible first | exact HB.out | apply below_alloc | apply pw_below_drewN | apply below_drew1 | refine below_set ?_ GE129.out) | exact HB.out)) hb); clear BK129; clear HB; have HO133 := n0_; have BK129 := n1_; have HB := n2_; clear n0_ n1_ n2_; clear hb ho15) | ((with_reducible refine gate_builtin (b := .append) (xs := #[.tmp 31, .tmp 32]) rfl ?_); at_builtin; refine Kd.R_append_rows (Kd.int .u64) (w0 := w) w.heap.size rfl (.tmp 31) (.tmp 32) 42 23 (.int .u64 0) 8 rfl Try.underlying42 info23 rfl (by decide) (by omega) v132 y131 l0 _ _ _ (fun _ => True) (fun _ => False) rfl rfl ?aO ?aR (fun _ _ h => h) (fun _ h => h.elim) ?aF ?aB ?aS ?aL ?_; (case aR => repeat (first | exact (Kd.C_below HR0.out HB.out) | (with_reducible refine Kd.C_alloc ?_ _) | (with_reducible refine Kd.C_drewN ?_ _) | (with_reducible refine Kd.C_drew ?_))); (case aB => exact (by repeat (first | (with_reducible first | exact HB.out | apply below_alloc | apply pw_below_drewN | apply below_drew1 | refine below_set ?_ GE129.out) | exact HB.out))); (case aF => exact (fun _ _ => trivial)); (case aO => exact (by (with_reducible repeat (first | apply Kd.R_alloc | apply Kd.R_drewN | apply Kd.R_drew)); exact HO133.out)); (case aS => exact (below_size (by repeat (first | (with_reducible first | exact HB.out | apply below_alloc | apply pw_below_drewN | apply below_drew1 | refine below_set ?_ GE129.out) | exact HB.out)))); (case aL => have := LMc13.out; omega); intro v135 w16 ho hb hg hat; rw [← Ny134.out] at ho; have n0_ := Aside0.mk (blk_grown (g := gb129) (o := .cells #[.int .u32 a3_0, .int .u32 a3_1, .bool a3_2] 36 (0, 0)) (by (with_reducible repeat (first | refine blk_drewN ?_ _ | refine blk_drew ?_ | refine blk_alloc ?_ _)); exact BK129.out) hg (Kd.R_ne HO133.out BK129.out (by decide))); have n1_ := Aside0.mk (hb); have n2_ := Aside0.mk (ho); clear BK129; clear HB; clear HO133; have BK129 := n0_; have HB := n1_; have HO136 := n2_; clear n0_ n1_ n2_; clear ho hb hg hat))
          go_loopg [11] kj5 (fun kq v11 w' => ∃ (x11_2 : List Int), Aside0 (cloakroomref13_GrowTable.l0 kq a1 (IntKind.u64.wrap ((IntKind.u64.wrap ((l0.length : Int))) + t130)) x11_2 = some (r1, r2)) ∧ Aside0 (kq ≤ kj5) ∧ Aside0 (Kd.R (Kd.int .u64) 23 w' w.heap.size (fun _ => True) v11 x11_2) ∧ Aside0 (w'.heap[gb129]? = some (.cells #[.int .u32 a3_0, .int .u32 a3_1, .bool a3_2] 36 (0, 0))) ∧ Aside0 (Below w.heap.size w w'))
          case atStart => exact ⟨(y134), H', ⟨Nat.le_refl _⟩, ⟨by (with_reducible repeat (first | apply Kd.R_alloc | apply Kd.R_drewN | apply Kd.R_drew)); exact HO136.out⟩, ⟨by (with_reducible repeat (first | refine blk_drewN ?_ _ | refine blk_drew ?_ | refine blk_alloc ?_ _)); exact BK129.out⟩, ⟨by repeat (first | (with_reducible first | exact HB.out | apply below_alloc | apply pw_below_drewN | apply below_drew1 | refine below_set ?_ GE129.out) | exact HB.out)⟩⟩
          case round =>
            clear H'
            try clear c1
            try clear c2
            try clear p2
            try clear c3
            try clear c8
            try clear c8b0
            try clear c9
            try clear c12
            try clear c13
            try clear hcz10_0
            try clear hcz10_1
            try clear hcz10_2
            try clear hcz11_0
            try clear hcz11_1
            try clear hcz11_2
            try clear hfz10_0
            try clear hfz10_1
            try clear hfz10_2
            try clear hfz11_0
            try clear hfz11_1
            try clear hfz11_2
            try clear p2
            obtain ⟨x11_2, HA, HK2, HO_11, BK129, HB⟩ := hrel
            cases gk with
            | zero => exact absurd HA.out (by simp [cloakroomref13_GrowTable.l0])
            | succ k2 =>
              have H := HA.out
              clear HA
              simp only [cloakroomref13_GrowTable.l0] at H
              by_cases c17 : (IntKind.u64.wrap ((x11_2.length : Int))) < (IntKind.u64.wrap ((IntKind.u64.wrap ((l0.length : Int))) + t130))
              · rw [if_pos c17] at H
                have c17b0 : decide ((IntKind.u64.wrap ((x11_2.length : Int))) < (IntKind.u64.wrap ((IntKind.u64.wrap ((l0.length : Int))) + t130))) = true := decide_eq_true c17
                clear c17
                by_cases c18 : x11_2.length < 17592186044416
                · rw [if_pos c18] at H
                  have LMc18 := Aside0.mk c18
                  clear c18
                  obtain ⟨y137, hy137⟩ : ∃ y_ : List Int, y_ = (x11_2 ++ [a1]) := ⟨_, rfl⟩
                  replace H : (cloakroomref13_GrowTable.l0 k2 a1 (IntKind.u64.wrap ((IntKind.u64.wrap ((l0.length : Int))) + t130)) y137) = some (r1, r2) := by first | (rw [hy137]; with_reducible exact H) | (have H2_ := (Option.bind_some _ _).symm.trans H; rw [hy137]; with_reducible exact H2_) | (have H2_ := (Option.bind_some _ _).symm.trans H; with_reducible exact H2_) | with_reducible exact H | (rw [hy137]; exact H) | exact H
                  have Ny137 := Aside0.mk hy137
                  clear hy137
                  have H' := Aside0.mk H
                  clear H
                  obtain ⟨Ao19, co19, eo19⟩ := Kd.R_slice HO_11.out
                  subst eo19
                  go_wp2_with (first | ((with_reducible refine gate_builtin (b := .append) (xs := #[.tmp 39, .tmp 41]) rfl ?_); at_builtin; refine Kd.R_append (Kd.int .u64) (w0 := w) w.heap.size rfl (.tmp 39) (.tmp 41) 42 23 (.int .u64 0) 8 rfl Try.underlying42 info23 rfl (by decide) (by omega) (.slice Ao19 x11_2.length co19) x11_2 a1 [.int .u64 a1] (fun _ => True) (fun _ => False) rfl rfl ?aP (fun _ hk => hk.elim) ?aF ?aO ?aB ?aS ?aL ?_; (case aP => exact rfl); (case aB => exact (by repeat (first | (with_reducible first | exact HB.out | apply below_alloc | apply pw_below_drewN | apply below_drew1 | refine below_set ?_ GE129.out) | exact HB.out))); (case aF => exact (fun _ _ => trivial)); (case aO => exact (by (with_reducible repeat (first | apply Kd.R_alloc | apply Kd.R_drewN | apply Kd.R_drew)); exact HO_11.out)); (case aS => exact (below_size (by repeat (first | (with_reducible first | exact HB.out | apply below_alloc | apply pw_below_drewN | apply below_drew1 | refine below_set ?_ GE129.out) | exact HB.out)))); (case aL => have := LMc18.out; omega); intro v138 w20 ho hb hg hat; rw [← Ny137.out] at ho; have n0_ := Aside0.mk (blk_grown (g := gb129) (o := .cells #[.int .u32 a3_0, .int .u32 a3_1, .bool a3_2] 36 (0, 0)) (by (with_reducible repeat (first | refine blk_drewN ?_ _ | refine blk_drew ?_ | refine blk_alloc ?_ _)); exact BK129.out) hg (Kd.R_ne HO_11.out BK129.out (by decide))); have n1_ := Aside0.mk (hb); have n2_ := Aside0.mk (ho); clear BK129; clear HB; clear HO_11; have BK129 := n0_; have HB := n1_; have HO139 := n2_; clear n0_ n1_ n2_; clear ho hb hg hat))
                  go_roundg k2
                  case measure => have := HJ5.out; have := HK2.out; omega
                  case rel => exact ⟨(y137), H', ⟨by have := HJ5.out; have := HK2.out; omega⟩, ⟨by (with_reducible repeat (first | apply Kd.R_alloc | apply Kd.R_drewN | apply Kd.R_drew)); exact HO139.out⟩, ⟨by (with_reducible repeat (first | refine blk_drewN ?_ _ | refine blk_drew ?_ | refine blk_alloc ?_ _)); exact BK129.out⟩, ⟨by repeat (first | (with_reducible first | exact HB.out | apply below_alloc | apply pw_below_drewN | apply below_drew1 | refine below_set ?_ GE129.out) | exact HB.out)⟩⟩
                · rw [if_neg c18] at H
                  exact absurd H (by simp)
              · rw [if_neg c17] at H
                have c17b0 : decide ((IntKind.u64.wrap ((x11_2.length : Int))) < (IntKind.u64.wrap ((IntKind.u64.wrap ((l0.length : Int))) + t130))) = false := decide_eq_false c17
                clear c17
                simp only [Option.some.injEq, Prod.mk.injEq] at H
                obtain ⟨rfl, rfl⟩ := H
                obtain ⟨Ao21, co21, eo21⟩ := Kd.R_slice HO_11.out
                subst eo21
                go_wp2
                go_ret2
                exact ⟨_, by first | rfl | (simp [errW_none, errW_some] <;> rfl) | (simp [*, errW_none, errW_some] <;> rfl), by (with_reducible repeat (first | apply Kd.R_alloc | apply Kd.R_drewN | apply Kd.R_drew)); exact HO_11.out, by repeat (first | (with_reducible first | exact HB.out | apply below_alloc | apply pw_below_drewN | apply below_drew1 | refine below_set ?_ GE129.out) | exact HB.out)⟩
        · rw [if_neg c13] at H
          exact absurd H (by simp)

-- NOT PRINTED: function 10 (cloakroomlaw15_TableGrows)

end Go.Proofs.Ytfjnhdbbjggkmaa.PTableGrows
