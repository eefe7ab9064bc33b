/- LinkStarts, where the start is function 2. -/
import Derived.Test.YtjbdldekllffkaaGreatDoorJ11
set_option linter.unusedVariables false
set_option linter.unusedSimpArgs false
namespace Go.Proofs.YtjbdldekllffkaaGreatDoor
open Go.RowKit Go.Sep Go.St
set_option maxRecDepth 100000 in
set_option maxHeartbeats 4000000 in
theorem ls_0 (k n : Nat) (hk : k < 256) (hkr : k % 4 = 0) (hn : n < 256) (W : World) :
    Calls Tryz.prog 13 #[.int .u8 (k : Int), .int .u8 (n : Int)] W fun e W' => e = .returned (.bool true) ∧ Same0 W W' := by
  have r1 : (k : Int).tmod 4 = 0 := by rw [Int.tmod_eq_emod_of_nonneg (by omega)]; omega
  have r2 : (k : Int) % 4 = 0 := by omega
  have r3 : IntKind.u8.wrap 0 = 0 := by decide
  have r4 : IntKind.u64.wrap (n : Int) = n := IntWalk.u64_in _ (by omega)
  have r5 : IntKind.i64.wrap (n : Int) = n := IntWalk.i64_in _ (by omega)
  go_enter Tryz.func13, Tryz.ntmps13
  go_wp2_with fail
  refine (begun20 _).mono ?_
  rintro e w0 ⟨rfl, hb0⟩
  have HS0 := Lib.hid hb0
  have HB0 := Lib.hid (Below.refl w0.heap.size w0)
  clear hb0
  go_wp2_with fail
  refine (fixed_form _).mono ?_
  rintro e w2 ⟨tA, fA, bA, mA, gA, xA, eA, cA, dA, tc, fc, bc, mk, gc, xn, xc, ec, cc, dc, rfl, hm, hb2⟩
  have HB2 := Lib.hid (below_then (HB0.out.alloc HB0.out.size (.cells #[.int .i64 11, .int .u32 0, .int .u32 0, .int .u64 0, .slice none 0 0, .int .i64 0] 60)) hb2)
  have x0 : w2.cell? ⟨w0.heap.size, 0, none⟩ = some (.int .i64 11) := (hb2.cell (p := ⟨w0.heap.size, 0, none⟩) (by simp)).trans (by simp)
  have x1 : w2.cell? ⟨w0.heap.size, 1, none⟩ = some (.int .u32 0) := (hb2.cell (p := ⟨w0.heap.size, 1, none⟩) (by simp)).trans (by simp)
  have x2 : w2.cell? ⟨w0.heap.size, 2, none⟩ = some (.int .u32 0) := (hb2.cell (p := ⟨w0.heap.size, 2, none⟩) (by simp)).trans (by simp)
  have x3 : w2.cell? ⟨w0.heap.size, 3, none⟩ = some (.int .u64 0) := (hb2.cell (p := ⟨w0.heap.size, 3, none⟩) (by simp)).trans (by simp)
  have x4 : w2.cell? ⟨w0.heap.size, 4, none⟩ = some (.slice none 0 0) := (hb2.cell (p := ⟨w0.heap.size, 4, none⟩) (by simp)).trans (by simp)
  have x5 : w2.cell? ⟨w0.heap.size, 5, none⟩ = some (.int .i64 0) := (hb2.cell (p := ⟨w0.heap.size, 5, none⟩) (by simp)).trans (by simp)
  have hel : w0.heap.size < w2.heap.size := World.block_lt_of_cell? _ _ x0
  have HM := Lib.hid hm
  clear hm hb2
  generalize w0.heap.size = eB at x0 x1 x2 x3 x4 x5 hel ⊢
  go_upto_region 6 with (fail)
  refine with_world (fun W' => Below (w2.alloc (.cells #[.slice tA 4 tc, .slice fA 8 fc, .slice bA 0 bc, .slice mA 1 mk, .slice gA 1 gc, .slice xA xn xc, .bool false, .int .u32 0, .slice eA 0 ec, .bool false, .int .u32 0, .slice cA 8 cc, .slice dA 0 dc] 39)).heap.size (w2.alloc (.cells #[.slice tA 4 tc, .slice fA 8 fc, .slice bA 0 bc, .slice mA 1 mk, .slice gA 1 gc, .slice xA xn xc, .bool false, .int .u32 0, .slice eA 0 ec, .bool false, .int .u32 0, .slice cA 8 cc, .slice dA 0 dc] 39)) W') ?_ ?_
  · first
      | exact (Below.refl _ _).alloc (Nat.le_refl _) _
      | exact Below.refl _ _
  generalize hmB : w2.heap.size = mB
  have hbm : Below w2.heap.size w2 (w2.alloc (.cells #[.slice tA 4 tc, .slice fA 8 fc, .slice bA 0 bc, .slice mA 1 mk, .slice gA 1 gc, .slice xA xn xc, .bool false, .int .u32 0, .slice eA 0 ec, .bool false, .int .u32 0, .slice cA 8 cc, .slice dA 0 dc] 39)) := (Below.refl _ _).alloc (Nat.le_refl _) _
  have hml2 : w2.heap.size < (w2.alloc (.cells #[.slice tA 4 tc, .slice fA 8 fc, .slice bA 0 bc, .slice mA 1 mk, .slice gA 1 gc, .slice xA xn xc, .bool false, .int .u32 0, .slice eA 0 ec, .bool false, .int .u32 0, .slice cA 8 cc, .slice dA 0 dc] 39)).heap.size := by simp
  have hmz : ∀ j, (w2.alloc (.cells #[.slice tA 4 tc, .slice fA 8 fc, .slice bA 0 bc, .slice mA 1 mk, .slice gA 1 gc, .slice xA xn xc, .bool false, .int .u32 0, .slice eA 0 ec, .bool false, .int .u32 0, .slice cA 8 cc, .slice dA 0 dc] 39)).frozen? ⟨w2.heap.size, j, none⟩ = false := fun j => by simp
  generalize hwm : w2.alloc (.cells #[.slice tA 4 tc, .slice fA 8 fc, .slice bA 0 bc, .slice mA 1 mk, .slice gA 1 gc, .slice xA xn xc, .bool false, .int .u32 0, .slice eA 0 ec, .bool false, .int .u32 0, .slice cA 8 cc, .slice dA 0 dc] 39) = wm at hbm hml2 hmz ⊢
  generalize wm.alloc _ = w3
  intro hb3
  have hmlt : mB < wm.heap.size := by rw [← hmB]; exact hml2
  rw [hmB] at hmz
  have m0 : w3.cell? ⟨mB, 0, none⟩ = some (.slice tA 4 tc) := (hb3.cell hmlt).trans (by rw [← hwm, ← hmB]; simp)
  have m1 : w3.cell? ⟨mB, 1, none⟩ = some (.slice fA 8 fc) := (hb3.cell hmlt).trans (by rw [← hwm, ← hmB]; simp)
  have m2 : w3.cell? ⟨mB, 2, none⟩ = some (.slice bA 0 bc) := (hb3.cell hmlt).trans (by rw [← hwm, ← hmB]; simp)
  have m3 : w3.cell? ⟨mB, 3, none⟩ = some (.slice mA 1 mk) := (hb3.cell hmlt).trans (by rw [← hwm, ← hmB]; simp)
  have m4 : w3.cell? ⟨mB, 4, none⟩ = some (.slice gA 1 gc) := (hb3.cell hmlt).trans (by rw [← hwm, ← hmB]; simp)
  have m5 : w3.cell? ⟨mB, 5, none⟩ = some (.slice xA xn xc) := (hb3.cell hmlt).trans (by rw [← hwm, ← hmB]; simp)
  have m6 : w3.cell? ⟨mB, 6, none⟩ = some (.bool false) := (hb3.cell hmlt).trans (by rw [← hwm, ← hmB]; simp)
  have m7 : w3.cell? ⟨mB, 7, none⟩ = some (.int .u32 0) := (hb3.cell hmlt).trans (by rw [← hwm, ← hmB]; simp)
  have m8 : w3.cell? ⟨mB, 8, none⟩ = some (.slice eA 0 ec) := (hb3.cell hmlt).trans (by rw [← hwm, ← hmB]; simp)
  have m9 : w3.cell? ⟨mB, 9, none⟩ = some (.bool false) := (hb3.cell hmlt).trans (by rw [← hwm, ← hmB]; simp)
  have m10 : w3.cell? ⟨mB, 10, none⟩ = some (.int .u32 0) := (hb3.cell hmlt).trans (by rw [← hwm, ← hmB]; simp)
  have m11 : w3.cell? ⟨mB, 11, none⟩ = some (.slice cA 8 cc) := (hb3.cell hmlt).trans (by rw [← hwm, ← hmB]; simp)
  have m12 : w3.cell? ⟨mB, 12, none⟩ = some (.slice dA 0 dc) := (hb3.cell hmlt).trans (by rw [← hwm, ← hmB]; simp)
  replace x0 : w3.cell? ⟨eB, 0, none⟩ = some (.int .i64 11) := (hb3.cell (Nat.lt_trans hel hml2)).trans ((hbm.cell hel).trans x0)
  replace x1 : w3.cell? ⟨eB, 1, none⟩ = some (.int .u32 0) := (hb3.cell (Nat.lt_trans hel hml2)).trans ((hbm.cell hel).trans x1)
  replace x2 : w3.cell? ⟨eB, 2, none⟩ = some (.int .u32 0) := (hb3.cell (Nat.lt_trans hel hml2)).trans ((hbm.cell hel).trans x2)
  replace x3 : w3.cell? ⟨eB, 3, none⟩ = some (.int .u64 0) := (hb3.cell (Nat.lt_trans hel hml2)).trans ((hbm.cell hel).trans x3)
  replace x4 : w3.cell? ⟨eB, 4, none⟩ = some (.slice none 0 0) := (hb3.cell (Nat.lt_trans hel hml2)).trans ((hbm.cell hel).trans x4)
  replace x5 : w3.cell? ⟨eB, 5, none⟩ = some (.int .i64 0) := (hb3.cell (Nat.lt_trans hel hml2)).trans ((hbm.cell hel).trans x5)
  have z3 : ∀ j, w3.frozen? ⟨mB, j, none⟩ = false := fun j => (hb3.frozen hmlt).trans (hmz j)
  have HB3 := Lib.hid (below_then (below_then HB2.out hbm) hb3)
  have HM3 := Lib.hid (modR_all (modR_all HM.out hbm) hb3)
  have hb2m : mB < w3.heap.size := World.block_lt_of_cell? _ _ m0
  have HWM := Lib.hid (show w0.heap.size ≤ mB by rw [← hmB]; exact HB2.out.size)
  have HNE := Lib.hid (show mB ≠ eB by omega)
  have HRO3 := Lib.hid (show Ro (AllB w2) w2 w3 ∧ ∀ b, AllB w2 b → b < mB from ⟨⟨⟨Nat.le_trans hbm.size hb3.size, hb3.os.trans hbm.os, hb3.output.trans hbm.output⟩, fun b hb => (hb3.block b (Nat.lt_of_lt_of_le hb hbm.size)).trans (hbm.block b hb)⟩, fun b hb => by rw [← hmB]; exact hb⟩)
  clear hmB hwm hbm hml2 hmz hb3 hmlt hel
  have HRD := Lib.hid (show ∀ w', Below w3.heap.size w3 w' → Rd w' 1 fA 8 (ints .u32 [1, 2, 0, 0, 3, 1, 1, 0]) from fun w' hb => by
    obtain ⟨v, hv, hr⟩ := (modR_all HM3.out hb).funcs
    cases hv
    exact rd_num hr)
  go_wp2_with (first | (at_builtin; refine wpList_append_row (by rfl) _ _ _ (by rfl) 28 1 (.int .u32 0) 4 Tryz.underlying30 infoU32 rfl (by omega) (by omega) (.slice (some ⟨w3.heap.size, 0, none⟩) 0 0) [] (by rfl) fA 8 fc (ints .u32 [1, 2, 0, 0, 3, 1, 1, 0]) (by rfl) (row_nil _ _ _ _) (HRD.out _ ((Below.refl _ _).alloc (Nat.le_refl _) _)) (ints_one _ _) (by simp [ints]) ?_; intro B1 q1 c1 wa hr1 hg1 ha1; have HO := Lib.hid ((On.nil (W := w3) (A := some ⟨w3.heap.size, 0, none⟩) ((Below.refl w3.heap.size w3).alloc (Nat.le_refl _) (.cells #[] 28))).more hr1.out hg1.out ha1.out); clear hr1 hg1 ha1) | (at_builtin; refine wpList_append_row (by rfl) _ _ _ (by rfl) 28 1 (.int .u32 0) 4 Tryz.underlying30 infoU32 rfl (by omega) (by omega) (.slice B1 q1 c1) ([] ++ ints .u32 [1, 2, 0, 0, 3, 1, 1, 0]) (by rfl) (some ⟨wa.heap.size, 0, none⟩) 1 1 [.int .u32 0] (by rfl) (HO.out.still ((Below.refl _ _).alloc (Nat.le_refl _) _)).row (rd_cell1 _ _ _) (by simp [Value.oneCell']) (by simp [ints]) ?_; intro B2 q2 c2 wb hr1 hg1 ha1; have HO2 := Lib.hid ((HO.out.still ((Below.refl _ _).alloc (Nat.le_refl _) (.cells #[.int .u32 0] 28))).more hr1.out hg1.out ha1.out); have bb := HO2.out.bel; have y1 := (bb.cell hb2m).trans m1; have y11 := (bb.cell (p := ⟨mB, 11, none⟩) hb2m).trans m11; have yz := (bb.frozen (p := ⟨mB, 1, none⟩) hb2m).trans (z3 1); clear hr1 hg1 ha1 bb))
  have bb := HO2.out.bel
  have hel3 : eB < w3.heap.size := World.block_lt_of_cell? _ _ x0
  have hme : mB ≠ eB := HNE.out
  generalize hw4 : wb.setCell ⟨mB, 1, none⟩ (.slice B2 q2 c2) = w4
  have hs4 : w4.heap.size = wb.heap.size := by rw [← hw4]; simp [World.setCell]
  replace m0 : w4.cell? ⟨mB, 0, none⟩ = some (.slice tA 4 tc) := by rw [← hw4]; exact cell_far ((bb.cell hb2m).trans m0) (.inr (by omega))
  replace m2 : w4.cell? ⟨mB, 2, none⟩ = some (.slice bA 0 bc) := by rw [← hw4]; exact cell_far ((bb.cell hb2m).trans m2) (.inr (by omega))
  replace m3 : w4.cell? ⟨mB, 3, none⟩ = some (.slice mA 1 mk) := by rw [← hw4]; exact cell_far ((bb.cell hb2m).trans m3) (.inr (by omega))
  replace m4 : w4.cell? ⟨mB, 4, none⟩ = some (.slice gA 1 gc) := by rw [← hw4]; exact cell_far ((bb.cell hb2m).trans m4) (.inr (by omega))
  replace m5 : w4.cell? ⟨mB, 5, none⟩ = some (.slice xA xn xc) := by rw [← hw4]; exact cell_far ((bb.cell hb2m).trans m5) (.inr (by omega))
  replace m6 : w4.cell? ⟨mB, 6, none⟩ = some (.bool false) := by rw [← hw4]; exact cell_far ((bb.cell hb2m).trans m6) (.inr (by omega))
  replace m7 : w4.cell? ⟨mB, 7, none⟩ = some (.int .u32 0) := by rw [← hw4]; exact cell_far ((bb.cell hb2m).trans m7) (.inr (by omega))
  replace m8 : w4.cell? ⟨mB, 8, none⟩ = some (.slice eA 0 ec) := by rw [← hw4]; exact cell_far ((bb.cell hb2m).trans m8) (.inr (by omega))
  replace m9 : w4.cell? ⟨mB, 9, none⟩ = some (.bool false) := by rw [← hw4]; exact cell_far ((bb.cell hb2m).trans m9) (.inr (by omega))
  replace m10 : w4.cell? ⟨mB, 10, none⟩ = some (.int .u32 0) := by rw [← hw4]; exact cell_far ((bb.cell hb2m).trans m10) (.inr (by omega))
  replace m11 : w4.cell? ⟨mB, 11, none⟩ = some (.slice cA 8 cc) := by rw [← hw4]; exact cell_far ((bb.cell hb2m).trans m11) (.inr (by omega))
  replace m12 : w4.cell? ⟨mB, 12, none⟩ = some (.slice dA 0 dc) := by rw [← hw4]; exact cell_far ((bb.cell hb2m).trans m12) (.inr (by omega))
  replace m1 : w4.cell? ⟨mB, 1, none⟩ = some (.slice B2 q2 c2) := by rw [← hw4]; exact World.cell?_setCell_same _ _ _ y1
  replace x0 : w4.cell? ⟨eB, 0, none⟩ = some (.int .i64 11) := by rw [← hw4]; exact cell_far ((bb.cell hel3).trans x0) (.inl hme)
  replace x1 : w4.cell? ⟨eB, 1, none⟩ = some (.int .u32 0) := by rw [← hw4]; exact cell_far ((bb.cell hel3).trans x1) (.inl hme)
  replace x2 : w4.cell? ⟨eB, 2, none⟩ = some (.int .u32 0) := by rw [← hw4]; exact cell_far ((bb.cell hel3).trans x2) (.inl hme)
  replace x3 : w4.cell? ⟨eB, 3, none⟩ = some (.int .u64 0) := by rw [← hw4]; exact cell_far ((bb.cell hel3).trans x3) (.inl hme)
  replace x4 : w4.cell? ⟨eB, 4, none⟩ = some (.slice none 0 0) := by rw [← hw4]; exact cell_far ((bb.cell hel3).trans x4) (.inl hme)
  replace x5 : w4.cell? ⟨eB, 5, none⟩ = some (.int .i64 0) := by rw [← hw4]; exact cell_far ((bb.cell hel3).trans x5) (.inl hme)
  have z4 : ∀ j, w4.frozen? ⟨mB, j, none⟩ = false := fun j => by rw [← hw4, World.frozen?_setCell]; exact (bb.frozen hb2m).trans (z3 j)
  have hm4 : mB < w4.heap.size := World.block_lt_of_cell? _ _ m0
  have he4 : eB < w4.heap.size := World.block_lt_of_cell? _ _ x0
  -- all but the module's own cells are as they were
  have HB4 := Lib.hid (show ∀ b, b < w3.heap.size → b ≠ mB → w4.heap[b]? = w3.heap[b]? from fun b hb hne => by
    rw [← hw4]
    exact (Below.heap_setCell _ _ _ _ hne).trans (bb.block b hb))
  have HF4 := Lib.hid (show Row w4 28 1 (.slice B2 q2 c2) (ints .u32 ([1, 2, 0, 0, 3, 1, 1, 0] ++ [0])) from by
    rw [← hw4]
    have := HO2.out.row.move (w1 := wb.setCell ⟨mB, 1, none⟩ (.slice B2 q2 c2)) (fun k hk => Below.heap_setCell _ _ _ _ (fun e => by have := HO2.out.fr k hk; simp only at e; omega))
    simpa [ints] using this)
  have HFb := Lib.hid (show ∀ k, rowBlock (.slice B2 q2 c2) = some k → mB < k from fun k hk => by have := HO2.out.fr k hk; omega)
  have HS4 := Lib.hid (show w3.heap.size ≤ w4.heap.size ∧ w4.os = w3.os ∧ w4.output = w3.output from ⟨by rw [hs4]; exact bb.size, by rw [← hw4]; exact bb.os, by rw [← hw4]; exact bb.output⟩)
  clear hs4 bb hw4 y1 y11 yz
  have KEY := Lib.hid (show ∀ w', Below w4.heap.size w4 w' → w'.cell? ⟨mB, 11, none⟩ = some (.slice cA 8 cc) ∧ w'.cell? ⟨eB, 0, none⟩ = some (.int .i64 11) ∧ w'.cell? ⟨eB, 1, none⟩ = some (.int .u32 0) ∧ w'.cell? ⟨eB, 2, none⟩ = some (.int .u32 0) ∧ w'.cell? ⟨eB, 3, none⟩ = some (.int .u64 0) ∧ w'.cell? ⟨eB, 4, none⟩ = some (.slice none 0 0) ∧ w'.cell? ⟨eB, 5, none⟩ = some (.int .i64 0) from fun w' hb => ⟨(hb.cell hm4).trans m11, (hb.cell he4).trans x0, (hb.cell he4).trans x1, (hb.cell he4).trans x2, (hb.cell he4).trans x3, (hb.cell he4).trans x4, (hb.cell he4).trans x5⟩)
  have HM4 := Lib.hid (HM.out.mono (S' := fun b => b < mB) (w' := w4) ⟨⟨Nat.le_trans HRO3.out.1.1.1 HS4.out.1, HS4.out.2.1.trans HRO3.out.1.1.2.1, HS4.out.2.2.trans HRO3.out.1.1.2.2⟩, fun b hb => (HB4.out b (Nat.lt_trans (HRO3.out.2 b hb) hb2m) (by have := HRO3.out.2 b hb; omega)).trans (HRO3.out.1.2 b hb)⟩ HRO3.out.2)
  obtain ⟨cv, hcv, hcr⟩ := HM4.out.codes
  cases hcv
  obtain ⟨css, hc1, hc2, hc3, hc4⟩ := RdL.cells (by omega) hcr
  have HCS := Lib.hid (And.intro hc1 (And.intro hc2 hc3))
  have HCD := Lib.hid (show ∀ w', Below w4.heap.size w4 w' → Rd w' 2 cA 8 css.flatten from fun w' hb => ⟨hc4.1, fun hp => by
    obtain ⟨a, e, hs, hc⟩ := hc4.2 hp
    exact ⟨a, e, hs, fun j u hu => (hb.cell (World.block_lt_of_cell? _ _ (hc j u hu))).trans (hc j u hu)⟩⟩)
  have HO1 := Lib.hid (show ∀ u ∈ css.flatten, u.oneCell' = true from fun u hu => by
    obtain ⟨cs, hcs, huc⟩ := List.mem_flatten.1 hu
    obtain ⟨k, hk, hkk⟩ := List.getElem_of_mem hcs
    obtain ⟨x, hx⟩ : ∃ x, (fixedM [] []).codes[k]? = some x := ⟨_, List.getElem?_eq_getElem (by rw [← hc1]; exact hk)⟩
    obtain ⟨lv, bv, e, ⟨_, _, rfl, _⟩, ⟨_, _, rfl, _⟩⟩ := hc3 k x cs hx (by rw [← hkk]; exact List.getElem?_eq_getElem hk)
    subst e
    simp at huc
    rcases huc with rfl | rfl <;> rfl)
  have HBY := Lib.hid (show css.flatten.length = 16 from by rw [flt_len css hc2, hc1]; rfl)
  have HBYa := Lib.hid (show (([] : List Value).length + css.flatten.length) * 48 ≤ 140737488355328 by rw [HBY.out]; decide)
  have HBYb := Lib.hid (show (([] ++ css.flatten).length + 2) * 48 ≤ 140737488355328 by rw [List.nil_append, HBY.out]; decide)
  have H := Lib.hid ((G.start w4 (n : Int)).still (Below.refl w4.heap.size w4).drew)
  clear hcr hc1 hc2 hc3 hc4
  refine wp_region_z (fun w' => w'.cell? ⟨mB, 11, none⟩ = some (.slice cA 8 cc) ∧ w'.cell? ⟨eB, 0, none⟩ = some (.int .i64 11) ∧ w'.cell? ⟨eB, 1, none⟩ = some (.int .u32 0) ∧ w'.cell? ⟨eB, 2, none⟩ = some (.int .u32 0) ∧ w'.cell? ⟨eB, 3, none⟩ = some (.int .u64 0) ∧ w'.cell? ⟨eB, 4, none⟩ = some (.slice none 0 0) ∧ w'.cell? ⟨eB, 5, none⟩ = some (.int .i64 0)) (fun j => j == 14 || j == 15) (by kernel_rfl) ?_ (fun hHeld => ?_)
  · exact KEY.out _ H.out.bel
  (refine wpZ_take (i := 1) (oi := ⟨some 27, .fieldAddr 39 (.tmp 6) 11, 0, _, _, none⟩) (v := ?_) rfl (by kernel_rfl) (fun _ _ _ h => h) (by assumption) (Or.inl ⟨by rfl, ?_⟩) ?_; rotate_left 1; · ((intro w hSw; (try dsimp only at hSw); go_split_ands; go_simp) <;> (try with_reducible rfl)))
  try simp only [Act.put, List.setIfInBounds_toArray, List.set_cons_zero, List.set_cons_succ]
  (refine wpZ_take (i := 2) (oi := ⟨some 28, .load 36 (.tmp 27), 36, _, _, none⟩) (v := ?_) rfl (by kernel_rfl) (fun _ _ _ h => h) (by assumption) (Or.inl ⟨by rfl, ?_⟩) ?_; rotate_left 1; · ((intro w hSw; (try dsimp only at hSw); go_split_ands; go_simp) <;> (try with_reducible rfl)))
  try simp only [Act.put, List.setIfInBounds_toArray, List.set_cons_zero, List.set_cons_succ]
  (refine wpZ_take (i := 4) (oi := ⟨some 30, .move (.tmp 1), 5, _, _, none⟩) (v := ?_) rfl (by kernel_rfl) (fun _ _ _ h => h) (by assumption) (Or.inl ⟨by rfl, ?_⟩) ?_; rotate_left 1; · ((intro w hSw; (try dsimp only at hSw); go_split_ands; go_simp) <;> (try with_reducible rfl)))
  try simp only [Act.put, List.setIfInBounds_toArray, List.set_cons_zero, List.set_cons_succ]
  (refine wpZ_take (i := 5) (oi := ⟨some 31, .convert 5 58 (.tmp 30), 58, _, _, none⟩) (v := ?_) rfl (by kernel_rfl) (fun _ _ _ h => h) (by assumption) (Or.inl ⟨by rfl, ?_⟩) ?_; rotate_left 1; · ((intro w hSw; (try dsimp only at hSw); go_split_ands; go_simp) <;> (try with_reducible rfl)))
  try simp only [Act.put, List.setIfInBounds_toArray, List.set_cons_zero, List.set_cons_succ]
  (refine wpZ_take (i := 6) (oi := ⟨some 32, .build 60 #[(0, .const (.int .i64 65)), (3, .tmp 31)], 60, _, _, none⟩) (v := ?_) rfl (by kernel_rfl) (fun _ _ _ h => h) (by assumption) (Or.inl ⟨by rfl, ?_⟩) ?_; rotate_left 1; · ((intro w hSw; (try dsimp only at hSw); go_split_ands; go_simp) <;> (try with_reducible rfl)))
  try simp only [Act.put, List.setIfInBounds_toArray, List.set_cons_zero, List.set_cons_succ]
  (refine wpZ_take (i := 7) (oi := ⟨some 33, .build 60 #[(0, .const (.int .i64 16)), (1, .const (.int .u32 6))], 60, _, _, none⟩) (v := ?_) rfl (by kernel_rfl) (fun _ _ _ h => h) (by assumption) (Or.inl ⟨by rfl, ?_⟩) ?_; rotate_left 1; · ((intro w hSw; (try dsimp only at hSw); go_split_ands; go_simp) <;> (try with_reducible rfl)))
  try simp only [Act.put, List.setIfInBounds_toArray, List.set_cons_zero, List.set_cons_succ]
  (refine wpZ_take (i := 8) (oi := ⟨some 34, .build 60 #[(0, .const (.int .i64 26))], 60, _, _, none⟩) (v := ?_) rfl (by kernel_rfl) (fun _ _ _ h => h) (by assumption) (Or.inl ⟨by rfl, ?_⟩) ?_; rotate_left 1; · ((intro w hSw; (try dsimp only at hSw); go_split_ands; go_simp) <;> (try with_reducible rfl)))
  try simp only [Act.put, List.setIfInBounds_toArray, List.set_cons_zero, List.set_cons_succ]
  (refine wpZ_take (i := 9) (oi := ⟨some 35, .load 60 (.tmp 5), 60, _, _, none⟩) (v := ?_) rfl (by kernel_rfl) (fun _ _ _ h => h) (by assumption) (Or.inl ⟨by rfl, ?_⟩) ?_; rotate_left 1; · ((intro w hSw; (try dsimp only at hSw); go_split_ands; go_simp) <;> (try with_reducible rfl)))
  try simp only [Act.put, List.setIfInBounds_toArray, List.set_cons_zero, List.set_cons_succ]
  refine wpZ_two (i := 0) (j := 10) (oi := ⟨some 26, .buildSlice 36 0 #[], 36, _, _, none⟩) (oj := ⟨some 36, .buildSlice 57 4 #[(0, .tmp 32), (1, .tmp 33), (2, .tmp 34), (3, .tmp 35)], 57, _, _, none⟩) rfl rfl (by kernel_rfl) (fun K hK => ?_) (fun K hK => ?_)
  ·
    go_simp; refine all_world (fun W' => G w4 W' (n : Int) _ _ _) (H.out.still ((Below.refl _ _).alloc (Nat.le_refl _) (.cells #[] 67))) ?_; intro w5 hG; have H := Lib.hid hG; clear hG
    refine hK.out _ _ (fun _ => by (exact KEY.out _ H.out.bel)) (fun hh => ?_)
    have hHeld := hh rfl
    clear hK K
    try simp only [Act.put, List.setIfInBounds_toArray, List.set_cons_zero, List.set_cons_succ]
    refine wpZ_two (i := 3) (j := 10) (oi := ⟨some 29, .call { callee := .builtin .append, args := #[.tmp 26, .tmp 28], argTypes := #[36, 36] }, 36, _, _, none⟩) (oj := ⟨some 36, .buildSlice 57 4 #[(0, .tmp 32), (1, .tmp 33), (2, .tmp 34), (3, .tmp 35)], 57, _, _, none⟩) rfl rfl (by kernel_rfl) (fun K hK => ?_) (fun K hK => ?_)
    ·
      refine step_append_row (by rfl) _ _ _ (by rfl) 67 2 _ 48 Tryz.underlying36 infoCode rfl (by omega) (by omega) _ [] (by rfl) cA 8 cc css.flatten (by rfl) (row_nil _ _ _ _) (HCD.out _ H.out.bel) HO1.out HBYa.out ?_; intro B5 q5 c5 w5 hr1 hg1 ha1; have H := Lib.hid (H.out.row hr1.out hg1.out ha1.out); clear hr1 hg1 ha1
      refine hK.out _ _ (fun _ => by (exact KEY.out _ H.out.bel)) (fun hh => ?_)
      have hHeld := hh rfl
      clear hK K
      try simp only [Act.put, List.setIfInBounds_toArray, List.set_cons_zero, List.set_cons_succ]
      refine wpZ_one (i := 10) (oi := ⟨some 36, .buildSlice 57 4 #[(0, .tmp 32), (1, .tmp 33), (2, .tmp 34), (3, .tmp 35)], 57, _, _, none⟩) rfl (by kernel_rfl) (fun K hK => ?_)
      go_simp; refine all_world (fun W' => G w4 W' (n : Int) _ _ _) H.out.body ?_; intro w5 hG; have H := Lib.hid hG; clear hG
      refine hK.out _ _ (fun _ => by (exact KEY.out _ H.out.bel)) (fun hh => ?_)
      have hHeld := hh rfl
      clear hK K
      try simp only [Act.put, List.setIfInBounds_toArray, List.set_cons_zero, List.set_cons_succ]
      (refine wpZ_take (i := 11) (oi := ⟨some 37, .build 67 #[(1, .tmp 36)], 67, _, _, none⟩) (v := ?_) rfl (by kernel_rfl) (fun _ _ _ h => h) (by assumption) (Or.inl ⟨by rfl, ?_⟩) ?_; rotate_left 1; · ((intro w hSw; (try dsimp only at hSw); go_split_ands; go_simp) <;> (try with_reducible rfl)))
      try simp only [Act.put, List.setIfInBounds_toArray, List.set_cons_zero, List.set_cons_succ]
      refine wpZ_one (i := 12) (oi := ⟨some 38, .buildSlice 36 1 #[(0, .tmp 37)], 36, _, _, none⟩) rfl (by kernel_rfl) (fun K hK => ?_)
      go_simp; refine all_world (fun W' => G w4 W' (n : Int) _ _ _) H.out.one ?_; intro w5 hG; have H := Lib.hid hG; clear hG
      refine hK.out _ _ (fun _ => by (exact KEY.out _ H.out.bel)) (fun hh => ?_)
      have hHeld := hh rfl
      clear hK K
      try simp only [Act.put, List.setIfInBounds_toArray, List.set_cons_zero, List.set_cons_succ]
      refine wpZ_one (i := 13) (oi := ⟨some 39, .call { callee := .builtin .append, args := #[.tmp 29, .tmp 38], argTypes := #[36, 36] }, 36, _, _, none⟩) rfl (by kernel_rfl) (fun K hK => ?_)
      refine step_append_row (by rfl) _ _ _ (by rfl) 67 2 _ 48 Tryz.underlying36 infoCode rfl (by omega) (by omega) (.slice B5 q5 c5) ([] ++ css.flatten) (by rfl) _ 1 1 _ (by rfl) (H.out.c _ _ rfl).1 H.out.rdl (by simp [Value.oneCell']) HBYb.out ?_; intro B6 q6 c6 w6 hr1 hg1 ha1; have H := Lib.hid (H.out.add hr1.out hg1.out ha1.out); have y11 := (H.out.bel.cell hm4).trans m11; have yz := (H.out.bel.frozen (p := ⟨mB, 11, none⟩) hm4).trans (z4 11); clear hr1 hg1 ha1
      refine hK.out _ _ (fun _ => by (exact KEY.out _ H.out.bel)) (fun hh => ?_)
      have hHeld := hh rfl
      clear hK K
      try simp only [Act.put, List.setIfInBounds_toArray, List.set_cons_zero, List.set_cons_succ]
      refine wpZ_one (i := 14) (oi := ⟨some 40, .fieldAddr 39 (.tmp 6) 11, 0, _, _, none⟩) rfl (by kernel_rfl) (fun K hK => ?_)
      go_simp
      refine hK.out _ _ (fun h => by simp at h) (fun _ => ?_)
      clear hK K
      try simp only [Act.put, List.setIfInBounds_toArray, List.set_cons_zero, List.set_cons_succ]
      refine wpZ_one (i := 15) (oi := ⟨none, .store 36 (.tmp 40) (.tmp 39), 0, _, _, none⟩) rfl (by kernel_rfl) (fun K hK => ?_)
      go_simp
      refine hK.out _ _ (fun h => by simp at h) (fun _ => ?_)
      clear hK K
      try simp only [Act.put, List.setIfInBounds_toArray, List.set_cons_zero, List.set_cons_succ]
      refine wpZ_done (by kernel_rfl) ?_ _
      have v0 := (H.out.bel.cell (p := ⟨mB, 0, none⟩) hm4).trans m0
      have v1 := (H.out.bel.cell (p := ⟨mB, 1, none⟩) hm4).trans m1
      have v2 := (H.out.bel.cell (p := ⟨mB, 2, none⟩) hm4).trans m2
      have v3 := (H.out.bel.cell (p := ⟨mB, 3, none⟩) hm4).trans m3
      have v4 := (H.out.bel.cell (p := ⟨mB, 4, none⟩) hm4).trans m4
      have v5 := (H.out.bel.cell (p := ⟨mB, 5, none⟩) hm4).trans m5
      have v6 := (H.out.bel.cell (p := ⟨mB, 6, none⟩) hm4).trans m6
      have v7 := (H.out.bel.cell (p := ⟨mB, 7, none⟩) hm4).trans m7
      have v8 := (H.out.bel.cell (p := ⟨mB, 8, none⟩) hm4).trans m8
      have v9 := (H.out.bel.cell (p := ⟨mB, 9, none⟩) hm4).trans m9
      have v10 := (H.out.bel.cell (p := ⟨mB, 10, none⟩) hm4).trans m10
      have v11 := (H.out.bel.cell (p := ⟨mB, 11, none⟩) hm4).trans m11
      have v12 := (H.out.bel.cell (p := ⟨mB, 12, none⟩) hm4).trans m12
      have yz6 := (H.out.bel.frozen (p := ⟨mB, 6, none⟩) hm4).trans (z4 6)
      have yz7 := (H.out.bel.frozen (p := ⟨mB, 7, none⟩) hm4).trans (z4 7)
      go_wp2_with fail
      refine calls_world (fun W' => (∀ k, k ≠ mB → W'.heap[k]? = w6.heap[k]?) ∧ W'.heap.size = w6.heap.size ∧ W'.os = w6.os ∧ W'.output = w6.output) ?_ ?_
      · refine ⟨fun k hk => ?_, by simp [World.setCell], rfl, rfl⟩
        exact (Below.heap_setCell _ _ _ _ hk).trans ((Below.heap_setCell _ _ _ _ hk).trans (Below.heap_setCell _ _ _ _ hk))
      rintro w9 ⟨h9, hs9, ho9⟩
      obtain ⟨I', hI, hcall⟩ := made9 hn (f := 2) (by omega) (mod9 (f := 2) HM4.out HF4.out HFb.out H.out HCS.out.1 HCS.out.2.1 HCS.out.2.2 hm4 h9 hs9 ho9) (came2 n hn)
      refine hcall.mono ?_
      rintro e w10 ⟨iB, S10, L10, hres, hsi, hro, hS, hk10⟩
      have HFIN := Lib.hid (HS0.out.trans (chain9 HB3.out HWM.out HB4.out HS4.out H.out.bel h9 hs9 ho9 hro))
      rcases hres with ⟨he, rfl⟩ | ⟨he, rfl⟩
      · clear h9 hs9 ho9 hro hsi hS hk10 hI he
        go_wp2
        go_ret
        exact ⟨rfl, HFIN.out⟩
      · exact absurd he (by decide)
    ·
      go_simp; refine all_world (fun W' => G w4 W' (n : Int) _ _ _) H.out.body ?_; intro w5 hG; have H := Lib.hid hG; clear hG
      refine hK.out _ _ (fun _ => by (exact KEY.out _ H.out.bel)) (fun hh => ?_)
      have hHeld := hh rfl
      clear hK K
      try simp only [Act.put, List.setIfInBounds_toArray, List.set_cons_zero, List.set_cons_succ]
      (refine wpZ_take (i := 11) (oi := ⟨some 37, .build 67 #[(1, .tmp 36)], 67, _, _, none⟩) (v := ?_) rfl (by kernel_rfl) (fun _ _ _ h => h) (by assumption) (Or.inl ⟨by rfl, ?_⟩) ?_; rotate_left 1; · ((intro w hSw; (try dsimp only at hSw); go_split_ands; go_simp) <;> (try with_reducible rfl)))
      try simp only [Act.put, List.setIfInBounds_toArray, List.set_cons_zero, List.set_cons_succ]
      refine wpZ_two (i := 3) (j := 12) (oi := ⟨some 29, .call { callee := .builtin .append, args := #[.tmp 26, .tmp 28], argTypes := #[36, 36] }, 36, _, _, none⟩) (oj := ⟨some 38, .buildSlice 36 1 #[(0, .tmp 37)], 36, _, _, none⟩) rfl rfl (by kernel_rfl) (fun K hK => ?_) (fun K hK => ?_)
      ·
        refine step_append_row (by rfl) _ _ _ (by rfl) 67 2 _ 48 Tryz.underlying36 infoCode rfl (by omega) (by omega) _ [] (by rfl) cA 8 cc css.flatten (by rfl) (row_nil _ _ _ _) (HCD.out _ H.out.bel) HO1.out HBYa.out ?_; intro B5 q5 c5 w5 hr1 hg1 ha1; have H := Lib.hid (H.out.row hr1.out hg1.out ha1.out); clear hr1 hg1 ha1
        refine hK.out _ _ (fun _ => by (exact KEY.out _ H.out.bel)) (fun hh => ?_)
        have hHeld := hh rfl
        clear hK K
        try simp only [Act.put, List.setIfInBounds_toArray, List.set_cons_zero, List.set_cons_succ]
        refine wpZ_one (i := 12) (oi := ⟨some 38, .buildSlice 36 1 #[(0, .tmp 37)], 36, _, _, none⟩) rfl (by kernel_rfl) (fun K hK => ?_)
        go_simp; refine all_world (fun W' => G w4 W' (n : Int) _ _ _) H.out.one ?_; intro w5 hG; have H := Lib.hid hG; clear hG
        refine hK.out _ _ (fun _ => by (exact KEY.out _ H.out.bel)) (fun hh => ?_)
        have hHeld := hh rfl
        clear hK K
        try simp only [Act.put, List.setIfInBounds_toArray, List.set_cons_zero, List.set_cons_succ]
        refine wpZ_one (i := 13) (oi := ⟨some 39, .call { callee := .builtin .append, args := #[.tmp 29, .tmp 38], argTypes := #[36, 36] }, 36, _, _, none⟩) rfl (by kernel_rfl) (fun K hK => ?_)
        refine step_append_row (by rfl) _ _ _ (by rfl) 67 2 _ 48 Tryz.underlying36 infoCode rfl (by omega) (by omega) (.slice B5 q5 c5) ([] ++ css.flatten) (by rfl) _ 1 1 _ (by rfl) (H.out.c _ _ rfl).1 H.out.rdl (by simp [Value.oneCell']) HBYb.out ?_; intro B6 q6 c6 w6 hr1 hg1 ha1; have H := Lib.hid (H.out.add hr1.out hg1.out ha1.out); have y11 := (H.out.bel.cell hm4).trans m11; have yz := (H.out.bel.frozen (p := ⟨mB, 11, none⟩) hm4).trans (z4 11); clear hr1 hg1 ha1
        refine hK.out _ _ (fun _ => by (exact KEY.out _ H.out.bel)) (fun hh => ?_)
        have hHeld := hh rfl
        clear hK K
        try simp only [Act.put, List.setIfInBounds_toArray, List.set_cons_zero, List.set_cons_succ]
        refine wpZ_one (i := 14) (oi := ⟨some 40, .fieldAddr 39 (.tmp 6) 11, 0, _, _, none⟩) rfl (by kernel_rfl) (fun K hK => ?_)
        go_simp
        refine hK.out _ _ (fun h => by simp at h) (fun _ => ?_)
        clear hK K
        try simp only [Act.put, List.setIfInBounds_toArray, List.set_cons_zero, List.set_cons_succ]
        refine wpZ_one (i := 15) (oi := ⟨none, .store 36 (.tmp 40) (.tmp 39), 0, _, _, none⟩) rfl (by kernel_rfl) (fun K hK => ?_)
        go_simp
        refine hK.out _ _ (fun h => by simp at h) (fun _ => ?_)
        clear hK K
        try simp only [Act.put, List.setIfInBounds_toArray, List.set_cons_zero, List.set_cons_succ]
        refine wpZ_done (by kernel_rfl) ?_ _
        have v0 := (H.out.bel.cell (p := ⟨mB, 0, none⟩) hm4).trans m0
        have v1 := (H.out.bel.cell (p := ⟨mB, 1, none⟩) hm4).trans m1
        have v2 := (H.out.bel.cell (p := ⟨mB, 2, none⟩) hm4).trans m2
        have v3 := (H.out.bel.cell (p := ⟨mB, 3, none⟩) hm4).trans m3
        have v4 := (H.out.bel.cell (p := ⟨mB, 4, none⟩) hm4).trans m4
        have v5 := (H.out.bel.cell (p := ⟨mB, 5, none⟩) hm4).trans m5
        have v6 := (H.out.bel.cell (p := ⟨mB, 6, none⟩) hm4).trans m6
        have v7 := (H.out.bel.cell (p := ⟨mB, 7, none⟩) hm4).trans m7
        have v8 := (H.out.bel.cell (p := ⟨mB, 8, none⟩) hm4).trans m8
        have v9 := (H.out.bel.cell (p := ⟨mB, 9, none⟩) hm4).trans m9
        have v10 := (H.out.bel.cell (p := ⟨mB, 10, none⟩) hm4).trans m10
        have v11 := (H.out.bel.cell (p := ⟨mB, 11, none⟩) hm4).trans m11
        have v12 := (H.out.bel.cell (p := ⟨mB, 12, none⟩) hm4).trans m12
        have yz6 := (H.out.bel.frozen (p := ⟨mB, 6, none⟩) hm4).trans (z4 6)
        have yz7 := (H.out.bel.frozen (p := ⟨mB, 7, none⟩) hm4).trans (z4 7)
        go_wp2_with fail
        refine calls_world (fun W' => (∀ k, k ≠ mB → W'.heap[k]? = w6.heap[k]?) ∧ W'.heap.size = w6.heap.size ∧ W'.os = w6.os ∧ W'.output = w6.output) ?_ ?_
        · refine ⟨fun k hk => ?_, by simp [World.setCell], rfl, rfl⟩
          exact (Below.heap_setCell _ _ _ _ hk).trans ((Below.heap_setCell _ _ _ _ hk).trans (Below.heap_setCell _ _ _ _ hk))
        rintro w9 ⟨h9, hs9, ho9⟩
        obtain ⟨I', hI, hcall⟩ := made9 hn (f := 2) (by omega) (mod9 (f := 2) HM4.out HF4.out HFb.out H.out HCS.out.1 HCS.out.2.1 HCS.out.2.2 hm4 h9 hs9 ho9) (came2 n hn)
        refine hcall.mono ?_
        rintro e w10 ⟨iB, S10, L10, hres, hsi, hro, hS, hk10⟩
        have HFIN := Lib.hid (HS0.out.trans (chain9 HB3.out HWM.out HB4.out HS4.out H.out.bel h9 hs9 ho9 hro))
        rcases hres with ⟨he, rfl⟩ | ⟨he, rfl⟩
        · clear h9 hs9 ho9 hro hsi hS hk10 hI he
          go_wp2
          go_ret
          exact ⟨rfl, HFIN.out⟩
        · exact absurd he (by decide)
      ·
        go_simp; refine all_world (fun W' => G w4 W' (n : Int) _ _ _) H.out.one ?_; intro w5 hG; have H := Lib.hid hG; clear hG
        refine hK.out _ _ (fun _ => by (exact KEY.out _ H.out.bel)) (fun hh => ?_)
        have hHeld := hh rfl
        clear hK K
        try simp only [Act.put, List.setIfInBounds_toArray, List.set_cons_zero, List.set_cons_succ]
        refine wpZ_one (i := 3) (oi := ⟨some 29, .call { callee := .builtin .append, args := #[.tmp 26, .tmp 28], argTypes := #[36, 36] }, 36, _, _, none⟩) rfl (by kernel_rfl) (fun K hK => ?_)
        refine step_append_row (by rfl) _ _ _ (by rfl) 67 2 _ 48 Tryz.underlying36 infoCode rfl (by omega) (by omega) _ [] (by rfl) cA 8 cc css.flatten (by rfl) (row_nil _ _ _ _) (HCD.out _ H.out.bel) HO1.out HBYa.out ?_; intro B5 q5 c5 w5 hr1 hg1 ha1; have H := Lib.hid (H.out.row hr1.out hg1.out ha1.out); clear hr1 hg1 ha1
        refine hK.out _ _ (fun _ => by (exact KEY.out _ H.out.bel)) (fun hh => ?_)
        have hHeld := hh rfl
        clear hK K
        try simp only [Act.put, List.setIfInBounds_toArray, List.set_cons_zero, List.set_cons_succ]
        refine wpZ_one (i := 13) (oi := ⟨some 39, .call { callee := .builtin .append, args := #[.tmp 29, .tmp 38], argTypes := #[36, 36] }, 36, _, _, none⟩) rfl (by kernel_rfl) (fun K hK => ?_)
        refine step_append_row (by rfl) _ _ _ (by rfl) 67 2 _ 48 Tryz.underlying36 infoCode rfl (by omega) (by omega) (.slice B5 q5 c5) ([] ++ css.flatten) (by rfl) _ 1 1 _ (by rfl) (H.out.c _ _ rfl).1 H.out.rdl (by simp [Value.oneCell']) HBYb.out ?_; intro B6 q6 c6 w6 hr1 hg1 ha1; have H := Lib.hid (H.out.add hr1.out hg1.out ha1.out); have y11 := (H.out.bel.cell hm4).trans m11; have yz := (H.out.bel.frozen (p := ⟨mB, 11, none⟩) hm4).trans (z4 11); clear hr1 hg1 ha1
        refine hK.out _ _ (fun _ => by (exact KEY.out _ H.out.bel)) (fun hh => ?_)
        have hHeld := hh rfl
        clear hK K
        try simp only [Act.put, List.setIfInBounds_toArray, List.set_cons_zero, List.set_cons_succ]
        refine wpZ_one (i := 14) (oi := ⟨some 40, .fieldAddr 39 (.tmp 6) 11, 0, _, _, none⟩) rfl (by kernel_rfl) (fun K hK => ?_)
        go_simp
        refine hK.out _ _ (fun h => by simp at h) (fun _ => ?_)
        clear hK K
        try simp only [Act.put, List.setIfInBounds_toArray, List.set_cons_zero, List.set_cons_succ]
        refine wpZ_one (i := 15) (oi := ⟨none, .store 36 (.tmp 40) (.tmp 39), 0, _, _, none⟩) rfl (by kernel_rfl) (fun K hK => ?_)
        go_simp
        refine hK.out _ _ (fun h => by simp at h) (fun _ => ?_)
        clear hK K
        try simp only [Act.put, List.setIfInBounds_toArray, List.set_cons_zero, List.set_cons_succ]
        refine wpZ_done (by kernel_rfl) ?_ _
        have v0 := (H.out.bel.cell (p := ⟨mB, 0, none⟩) hm4).trans m0
        have v1 := (H.out.bel.cell (p := ⟨mB, 1, none⟩) hm4).trans m1
        have v2 := (H.out.bel.cell (p := ⟨mB, 2, none⟩) hm4).trans m2
        have v3 := (H.out.bel.cell (p := ⟨mB, 3, none⟩) hm4).trans m3
        have v4 := (H.out.bel.cell (p := ⟨mB, 4, none⟩) hm4).trans m4
        have v5 := (H.out.bel.cell (p := ⟨mB, 5, none⟩) hm4).trans m5
        have v6 := (H.out.bel.cell (p := ⟨mB, 6, none⟩) hm4).trans m6
        have v7 := (H.out.bel.cell (p := ⟨mB, 7, none⟩) hm4).trans m7
        have v8 := (H.out.bel.cell (p := ⟨mB, 8, none⟩) hm4).trans m8
        have v9 := (H.out.bel.cell (p := ⟨mB, 9, none⟩) hm4).trans m9
        have v10 := (H.out.bel.cell (p := ⟨mB, 10, none⟩) hm4).trans m10
        have v11 := (H.out.bel.cell (p := ⟨mB, 11, none⟩) hm4).trans m11
        have v12 := (H.out.bel.cell (p := ⟨mB, 12, none⟩) hm4).trans m12
        have yz6 := (H.out.bel.frozen (p := ⟨mB, 6, none⟩) hm4).trans (z4 6)
        have yz7 := (H.out.bel.frozen (p := ⟨mB, 7, none⟩) hm4).trans (z4 7)
        go_wp2_with fail
        refine calls_world (fun W' => (∀ k, k ≠ mB → W'.heap[k]? = w6.heap[k]?) ∧ W'.heap.size = w6.heap.size ∧ W'.os = w6.os ∧ W'.output = w6.output) ?_ ?_
        · refine ⟨fun k hk => ?_, by simp [World.setCell], rfl, rfl⟩
          exact (Below.heap_setCell _ _ _ _ hk).trans ((Below.heap_setCell _ _ _ _ hk).trans (Below.heap_setCell _ _ _ _ hk))
        rintro w9 ⟨h9, hs9, ho9⟩
        obtain ⟨I', hI, hcall⟩ := made9 hn (f := 2) (by omega) (mod9 (f := 2) HM4.out HF4.out HFb.out H.out HCS.out.1 HCS.out.2.1 HCS.out.2.2 hm4 h9 hs9 ho9) (came2 n hn)
        refine hcall.mono ?_
        rintro e w10 ⟨iB, S10, L10, hres, hsi, hro, hS, hk10⟩
        have HFIN := Lib.hid (HS0.out.trans (chain9 HB3.out HWM.out HB4.out HS4.out H.out.bel h9 hs9 ho9 hro))
        rcases hres with ⟨he, rfl⟩ | ⟨he, rfl⟩
        · clear h9 hs9 ho9 hro hsi hS hk10 hI he
          go_wp2
          go_ret
          exact ⟨rfl, HFIN.out⟩
        · exact absurd he (by decide)
  ·
    go_simp; refine all_world (fun W' => G w4 W' (n : Int) _ _ _) H.out.body ?_; intro w5 hG; have H := Lib.hid hG; clear hG
    refine hK.out _ _ (fun _ => by (exact KEY.out _ H.out.bel)) (fun hh => ?_)
    have hHeld := hh rfl
    clear hK K
    try simp only [Act.put, List.setIfInBounds_toArray, List.set_cons_zero, List.set_cons_succ]
    (refine wpZ_take (i := 11) (oi := ⟨some 37, .build 67 #[(1, .tmp 36)], 67, _, _, none⟩) (v := ?_) rfl (by kernel_rfl) (fun _ _ _ h => h) (by assumption) (Or.inl ⟨by rfl, ?_⟩) ?_; rotate_left 1; · ((intro w hSw; (try dsimp only at hSw); go_split_ands; go_simp) <;> (try with_reducible rfl)))
    try simp only [Act.put, List.setIfInBounds_toArray, List.set_cons_zero, List.set_cons_succ]
    refine wpZ_two (i := 0) (j := 12) (oi := ⟨some 26, .buildSlice 36 0 #[], 36, _, _, none⟩) (oj := ⟨some 38, .buildSlice 36 1 #[(0, .tmp 37)], 36, _, _, none⟩) rfl rfl (by kernel_rfl) (fun K hK => ?_) (fun K hK => ?_)
    ·
      go_simp; refine all_world (fun W' => G w4 W' (n : Int) _ _ _) (H.out.still ((Below.refl _ _).alloc (Nat.le_refl _) (.cells #[] 67))) ?_; intro w5 hG; have H := Lib.hid hG; clear hG
      refine hK.out _ _ (fun _ => by (exact KEY.out _ H.out.bel)) (fun hh => ?_)
      have hHeld := hh rfl
      clear hK K
      try simp only [Act.put, List.setIfInBounds_toArray, List.set_cons_zero, List.set_cons_succ]
      refine wpZ_two (i := 3) (j := 12) (oi := ⟨some 29, .call { callee := .builtin .append, args := #[.tmp 26, .tmp 28], argTypes := #[36, 36] }, 36, _, _, none⟩) (oj := ⟨some 38, .buildSlice 36 1 #[(0, .tmp 37)], 36, _, _, none⟩) rfl rfl (by kernel_rfl) (fun K hK => ?_) (fun K hK => ?_)
      ·
        refine step_append_row (by rfl) _ _ _ (by rfl) 67 2 _ 48 Tryz.underlying36 infoCode rfl (by omega) (by omega) _ [] (by rfl) cA 8 cc css.flatten (by rfl) (row_nil _ _ _ _) (HCD.out _ H.out.bel) HO1.out HBYa.out ?_; intro B5 q5 c5 w5 hr1 hg1 ha1; have H := Lib.hid (H.out.row hr1.out hg1.out ha1.out); clear hr1 hg1 ha1
        refine hK.out _ _ (fun _ => by (exact KEY.out _ H.out.bel)) (fun hh => ?_)
        have hHeld := hh rfl
        clear hK K
        try simp only [Act.put, List.setIfInBounds_toArray, List.set_cons_zero, List.set_cons_succ]
        refine wpZ_one (i := 12) (oi := ⟨some 38, .buildSlice 36 1 #[(0, .tmp 37)], 36, _, _, none⟩) rfl (by kernel_rfl) (fun K hK => ?_)
        go_simp; refine all_world (fun W' => G w4 W' (n : Int) _ _ _) H.out.one ?_; intro w5 hG; have H := Lib.hid hG; clear hG
        refine hK.out _ _ (fun _ => by (exact KEY.out _ H.out.bel)) (fun hh => ?_)
        have hHeld := hh rfl
        clear hK K
        try simp only [Act.put, List.setIfInBounds_toArray, List.set_cons_zero, List.set_cons_succ]
        refine wpZ_one (i := 13) (oi := ⟨some 39, .call { callee := .builtin .append, args := #[.tmp 29, .tmp 38], argTypes := #[36, 36] }, 36, _, _, none⟩) rfl (by kernel_rfl) (fun K hK => ?_)
        refine step_append_row (by rfl) _ _ _ (by rfl) 67 2 _ 48 Tryz.underlying36 infoCode rfl (by omega) (by omega) (.slice B5 q5 c5) ([] ++ css.flatten) (by rfl) _ 1 1 _ (by rfl) (H.out.c _ _ rfl).1 H.out.rdl (by simp [Value.oneCell']) HBYb.out ?_; intro B6 q6 c6 w6 hr1 hg1 ha1; have H := Lib.hid (H.out.add hr1.out hg1.out ha1.out); have y11 := (H.out.bel.cell hm4).trans m11; have yz := (H.out.bel.frozen (p := ⟨mB, 11, none⟩) hm4).trans (z4 11); clear hr1 hg1 ha1
        refine hK.out _ _ (fun _ => by (exact KEY.out _ H.out.bel)) (fun hh => ?_)
        have hHeld := hh rfl
        clear hK K
        try simp only [Act.put, List.setIfInBounds_toArray, List.set_cons_zero, List.set_cons_succ]
        refine wpZ_one (i := 14) (oi := ⟨some 40, .fieldAddr 39 (.tmp 6) 11, 0, _, _, none⟩) rfl (by kernel_rfl) (fun K hK => ?_)
        go_simp
        refine hK.out _ _ (fun h => by simp at h) (fun _ => ?_)
        clear hK K
        try simp only [Act.put, List.setIfInBounds_toArray, List.set_cons_zero, List.set_cons_succ]
        refine wpZ_one (i := 15) (oi := ⟨none, .store 36 (.tmp 40) (.tmp 39), 0, _, _, none⟩) rfl (by kernel_rfl) (fun K hK => ?_)
        go_simp
        refine hK.out _ _ (fun h => by simp at h) (fun _ => ?_)
        clear hK K
        try simp only [Act.put, List.setIfInBounds_toArray, List.set_cons_zero, List.set_cons_succ]
        refine wpZ_done (by kernel_rfl) ?_ _
        have v0 := (H.out.bel.cell (p := ⟨mB, 0, none⟩) hm4).trans m0
        have v1 := (H.out.bel.cell (p := ⟨mB, 1, none⟩) hm4).trans m1
        have v2 := (H.out.bel.cell (p := ⟨mB, 2, none⟩) hm4).trans m2
        have v3 := (H.out.bel.cell (p := ⟨mB, 3, none⟩) hm4).trans m3
        have v4 := (H.out.bel.cell (p := ⟨mB, 4, none⟩) hm4).trans m4
        have v5 := (H.out.bel.cell (p := ⟨mB, 5, none⟩) hm4).trans m5
        have v6 := (H.out.bel.cell (p := ⟨mB, 6, none⟩) hm4).trans m6
        have v7 := (H.out.bel.cell (p := ⟨mB, 7, none⟩) hm4).trans m7
        have v8 := (H.out.bel.cell (p := ⟨mB, 8, none⟩) hm4).trans m8
        have v9 := (H.out.bel.cell (p := ⟨mB, 9, none⟩) hm4).trans m9
        have v10 := (H.out.bel.cell (p := ⟨mB, 10, none⟩) hm4).trans m10
        have v11 := (H.out.bel.cell (p := ⟨mB, 11, none⟩) hm4).trans m11
        have v12 := (H.out.bel.cell (p := ⟨mB, 12, none⟩) hm4).trans m12
        have yz6 := (H.out.bel.frozen (p := ⟨mB, 6, none⟩) hm4).trans (z4 6)
        have yz7 := (H.out.bel.frozen (p := ⟨mB, 7, none⟩) hm4).trans (z4 7)
        go_wp2_with fail
        refine calls_world (fun W' => (∀ k, k ≠ mB → W'.heap[k]? = w6.heap[k]?) ∧ W'.heap.size = w6.heap.size ∧ W'.os = w6.os ∧ W'.output = w6.output) ?_ ?_
        · refine ⟨fun k hk => ?_, by simp [World.setCell], rfl, rfl⟩
          exact (Below.heap_setCell _ _ _ _ hk).trans ((Below.heap_setCell _ _ _ _ hk).trans (Below.heap_setCell _ _ _ _ hk))
        rintro w9 ⟨h9, hs9, ho9⟩
        obtain ⟨I', hI, hcall⟩ := made9 hn (f := 2) (by omega) (mod9 (f := 2) HM4.out HF4.out HFb.out H.out HCS.out.1 HCS.out.2.1 HCS.out.2.2 hm4 h9 hs9 ho9) (came2 n hn)
        refine hcall.mono ?_
        rintro e w10 ⟨iB, S10, L10, hres, hsi, hro, hS, hk10⟩
        have HFIN := Lib.hid (HS0.out.trans (chain9 HB3.out HWM.out HB4.out HS4.out H.out.bel h9 hs9 ho9 hro))
        rcases hres with ⟨he, rfl⟩ | ⟨he, rfl⟩
        · clear h9 hs9 ho9 hro hsi hS hk10 hI he
          go_wp2
          go_ret
          exact ⟨rfl, HFIN.out⟩
        · exact absurd he (by decide)
      ·
        go_simp; refine all_world (fun W' => G w4 W' (n : Int) _ _ _) H.out.one ?_; intro w5 hG; have H := Lib.hid hG; clear hG
        refine hK.out _ _ (fun _ => by (exact KEY.out _ H.out.bel)) (fun hh => ?_)
        have hHeld := hh rfl
        clear hK K
        try simp only [Act.put, List.setIfInBounds_toArray, List.set_cons_zero, List.set_cons_succ]
        refine wpZ_one (i := 3) (oi := ⟨some 29, .call { callee := .builtin .append, args := #[.tmp 26, .tmp 28], argTypes := #[36, 36] }, 36, _, _, none⟩) rfl (by kernel_rfl) (fun K hK => ?_)
        refine step_append_row (by rfl) _ _ _ (by rfl) 67 2 _ 48 Tryz.underlying36 infoCode rfl (by omega) (by omega) _ [] (by rfl) cA 8 cc css.flatten (by rfl) (row_nil _ _ _ _) (HCD.out _ H.out.bel) HO1.out HBYa.out ?_; intro B5 q5 c5 w5 hr1 hg1 ha1; have H := Lib.hid (H.out.row hr1.out hg1.out ha1.out); clear hr1 hg1 ha1
        refine hK.out _ _ (fun _ => by (exact KEY.out _ H.out.bel)) (fun hh => ?_)
        have hHeld := hh rfl
        clear hK K
        try simp only [Act.put, List.setIfInBounds_toArray, List.set_cons_zero, List.set_cons_succ]
        refine wpZ_one (i := 13) (oi := ⟨some 39, .call { callee := .builtin .append, args := #[.tmp 29, .tmp 38], argTypes := #[36, 36] }, 36, _, _, none⟩) rfl (by kernel_rfl) (fun K hK => ?_)
        refine step_append_row (by rfl) _ _ _ (by rfl) 67 2 _ 48 Tryz.underlying36 infoCode rfl (by omega) (by omega) (.slice B5 q5 c5) ([] ++ css.flatten) (by rfl) _ 1 1 _ (by rfl) (H.out.c _ _ rfl).1 H.out.rdl (by simp [Value.oneCell']) HBYb.out ?_; intro B6 q6 c6 w6 hr1 hg1 ha1; have H := Lib.hid (H.out.add hr1.out hg1.out ha1.out); have y11 := (H.out.bel.cell hm4).trans m11; have yz := (H.out.bel.frozen (p := ⟨mB, 11, none⟩) hm4).trans (z4 11); clear hr1 hg1 ha1
        refine hK.out _ _ (fun _ => by (exact KEY.out _ H.out.bel)) (fun hh => ?_)
        have hHeld := hh rfl
        clear hK K
        try simp only [Act.put, List.setIfInBounds_toArray, List.set_cons_zero, List.set_cons_succ]
        refine wpZ_one (i := 14) (oi := ⟨some 40, .fieldAddr 39 (.tmp 6) 11, 0, _, _, none⟩) rfl (by kernel_rfl) (fun K hK => ?_)
        go_simp
        refine hK.out _ _ (fun h => by simp at h) (fun _ => ?_)
        clear hK K
        try simp only [Act.put, List.setIfInBounds_toArray, List.set_cons_zero, List.set_cons_succ]
        refine wpZ_one (i := 15) (oi := ⟨none, .store 36 (.tmp 40) (.tmp 39), 0, _, _, none⟩) rfl (by kernel_rfl) (fun K hK => ?_)
        go_simp
        refine hK.out _ _ (fun h => by simp at h) (fun _ => ?_)
        clear hK K
        try simp only [Act.put, List.setIfInBounds_toArray, List.set_cons_zero, List.set_cons_succ]
        refine wpZ_done (by kernel_rfl) ?_ _
        have v0 := (H.out.bel.cell (p := ⟨mB, 0, none⟩) hm4).trans m0
        have v1 := (H.out.bel.cell (p := ⟨mB, 1, none⟩) hm4).trans m1
        have v2 := (H.out.bel.cell (p := ⟨mB, 2, none⟩) hm4).trans m2
        have v3 := (H.out.bel.cell (p := ⟨mB, 3, none⟩) hm4).trans m3
        have v4 := (H.out.bel.cell (p := ⟨mB, 4, none⟩) hm4).trans m4
        have v5 := (H.out.bel.cell (p := ⟨mB, 5, none⟩) hm4).trans m5
        have v6 := (H.out.bel.cell (p := ⟨mB, 6, none⟩) hm4).trans m6
        have v7 := (H.out.bel.cell (p := ⟨mB, 7, none⟩) hm4).trans m7
        have v8 := (H.out.bel.cell (p := ⟨mB, 8, none⟩) hm4).trans m8
        have v9 := (H.out.bel.cell (p := ⟨mB, 9, none⟩) hm4).trans m9
        have v10 := (H.out.bel.cell (p := ⟨mB, 10, none⟩) hm4).trans m10
        have v11 := (H.out.bel.cell (p := ⟨mB, 11, none⟩) hm4).trans m11
        have v12 := (H.out.bel.cell (p := ⟨mB, 12, none⟩) hm4).trans m12
        have yz6 := (H.out.bel.frozen (p := ⟨mB, 6, none⟩) hm4).trans (z4 6)
        have yz7 := (H.out.bel.frozen (p := ⟨mB, 7, none⟩) hm4).trans (z4 7)
        go_wp2_with fail
        refine calls_world (fun W' => (∀ k, k ≠ mB → W'.heap[k]? = w6.heap[k]?) ∧ W'.heap.size = w6.heap.size ∧ W'.os = w6.os ∧ W'.output = w6.output) ?_ ?_
        · refine ⟨fun k hk => ?_, by simp [World.setCell], rfl, rfl⟩
          exact (Below.heap_setCell _ _ _ _ hk).trans ((Below.heap_setCell _ _ _ _ hk).trans (Below.heap_setCell _ _ _ _ hk))
        rintro w9 ⟨h9, hs9, ho9⟩
        obtain ⟨I', hI, hcall⟩ := made9 hn (f := 2) (by omega) (mod9 (f := 2) HM4.out HF4.out HFb.out H.out HCS.out.1 HCS.out.2.1 HCS.out.2.2 hm4 h9 hs9 ho9) (came2 n hn)
        refine hcall.mono ?_
        rintro e w10 ⟨iB, S10, L10, hres, hsi, hro, hS, hk10⟩
        have HFIN := Lib.hid (HS0.out.trans (chain9 HB3.out HWM.out HB4.out HS4.out H.out.bel h9 hs9 ho9 hro))
        rcases hres with ⟨he, rfl⟩ | ⟨he, rfl⟩
        · clear h9 hs9 ho9 hro hsi hS hk10 hI he
          go_wp2
          go_ret
          exact ⟨rfl, HFIN.out⟩
        · exact absurd he (by decide)
    ·
      go_simp; refine all_world (fun W' => G w4 W' (n : Int) _ _ _) H.out.one ?_; intro w5 hG; have H := Lib.hid hG; clear hG
      refine hK.out _ _ (fun _ => by (exact KEY.out _ H.out.bel)) (fun hh => ?_)
      have hHeld := hh rfl
      clear hK K
      try simp only [Act.put, List.setIfInBounds_toArray, List.set_cons_zero, List.set_cons_succ]
      refine wpZ_one (i := 0) (oi := ⟨some 26, .buildSlice 36 0 #[], 36, _, _, none⟩) rfl (by kernel_rfl) (fun K hK => ?_)
      go_simp; refine all_world (fun W' => G w4 W' (n : Int) _ _ _) (H.out.still ((Below.refl _ _).alloc (Nat.le_refl _) (.cells #[] 67))) ?_; intro w5 hG; have H := Lib.hid hG; clear hG
      refine hK.out _ _ (fun _ => by (exact KEY.out _ H.out.bel)) (fun hh => ?_)
      have hHeld := hh rfl
      clear hK K
      try simp only [Act.put, List.setIfInBounds_toArray, List.set_cons_zero, List.set_cons_succ]
      refine wpZ_one (i := 3) (oi := ⟨some 29, .call { callee := .builtin .append, args := #[.tmp 26, .tmp 28], argTypes := #[36, 36] }, 36, _, _, none⟩) rfl (by kernel_rfl) (fun K hK => ?_)
      refine step_append_row (by rfl) _ _ _ (by rfl) 67 2 _ 48 Tryz.underlying36 infoCode rfl (by omega) (by omega) _ [] (by rfl) cA 8 cc css.flatten (by rfl) (row_nil _ _ _ _) (HCD.out _ H.out.bel) HO1.out HBYa.out ?_; intro B5 q5 c5 w5 hr1 hg1 ha1; have H := Lib.hid (H.out.row hr1.out hg1.out ha1.out); clear hr1 hg1 ha1
      refine hK.out _ _ (fun _ => by (exact KEY.out _ H.out.bel)) (fun hh => ?_)
      have hHeld := hh rfl
      clear hK K
      try simp only [Act.put, List.setIfInBounds_toArray, List.set_cons_zero, List.set_cons_succ]
      refine wpZ_one (i := 13) (oi := ⟨some 39, .call { callee := .builtin .append, args := #[.tmp 29, .tmp 38], argTypes := #[36, 36] }, 36, _, _, none⟩) rfl (by kernel_rfl) (fun K hK => ?_)
      refine step_append_row (by rfl) _ _ _ (by rfl) 67 2 _ 48 Tryz.underlying36 infoCode rfl (by omega) (by omega) (.slice B5 q5 c5) ([] ++ css.flatten) (by rfl) _ 1 1 _ (by rfl) (H.out.c _ _ rfl).1 H.out.rdl (by simp [Value.oneCell']) HBYb.out ?_; intro B6 q6 c6 w6 hr1 hg1 ha1; have H := Lib.hid (H.out.add hr1.out hg1.out ha1.out); have y11 := (H.out.bel.cell hm4).trans m11; have yz := (H.out.bel.frozen (p := ⟨mB, 11, none⟩) hm4).trans (z4 11); clear hr1 hg1 ha1
      refine hK.out _ _ (fun _ => by (exact KEY.out _ H.out.bel)) (fun hh => ?_)
      have hHeld := hh rfl
      clear hK K
      try simp only [Act.put, List.setIfInBounds_toArray, List.set_cons_zero, List.set_cons_succ]
      refine wpZ_one (i := 14) (oi := ⟨some 40, .fieldAddr 39 (.tmp 6) 11, 0, _, _, none⟩) rfl (by kernel_rfl) (fun K hK => ?_)
      go_simp
      refine hK.out _ _ (fun h => by simp at h) (fun _ => ?_)
      clear hK K
      try simp only [Act.put, List.setIfInBounds_toArray, List.set_cons_zero, List.set_cons_succ]
      refine wpZ_one (i := 15) (oi := ⟨none, .store 36 (.tmp 40) (.tmp 39), 0, _, _, none⟩) rfl (by kernel_rfl) (fun K hK => ?_)
      go_simp
      refine hK.out _ _ (fun h => by simp at h) (fun _ => ?_)
      clear hK K
      try simp only [Act.put, List.setIfInBounds_toArray, List.set_cons_zero, List.set_cons_succ]
      refine wpZ_done (by kernel_rfl) ?_ _
      have v0 := (H.out.bel.cell (p := ⟨mB, 0, none⟩) hm4).trans m0
      have v1 := (H.out.bel.cell (p := ⟨mB, 1, none⟩) hm4).trans m1
      have v2 := (H.out.bel.cell (p := ⟨mB, 2, none⟩) hm4).trans m2
      have v3 := (H.out.bel.cell (p := ⟨mB, 3, none⟩) hm4).trans m3
      have v4 := (H.out.bel.cell (p := ⟨mB, 4, none⟩) hm4).trans m4
      have v5 := (H.out.bel.cell (p := ⟨mB, 5, none⟩) hm4).trans m5
      have v6 := (H.out.bel.cell (p := ⟨mB, 6, none⟩) hm4).trans m6
      have v7 := (H.out.bel.cell (p := ⟨mB, 7, none⟩) hm4).trans m7
      have v8 := (H.out.bel.cell (p := ⟨mB, 8, none⟩) hm4).trans m8
      have v9 := (H.out.bel.cell (p := ⟨mB, 9, none⟩) hm4).trans m9
      have v10 := (H.out.bel.cell (p := ⟨mB, 10, none⟩) hm4).trans m10
      have v11 := (H.out.bel.cell (p := ⟨mB, 11, none⟩) hm4).trans m11
      have v12 := (H.out.bel.cell (p := ⟨mB, 12, none⟩) hm4).trans m12
      have yz6 := (H.out.bel.frozen (p := ⟨mB, 6, none⟩) hm4).trans (z4 6)
      have yz7 := (H.out.bel.frozen (p := ⟨mB, 7, none⟩) hm4).trans (z4 7)
      go_wp2_with fail
      refine calls_world (fun W' => (∀ k, k ≠ mB → W'.heap[k]? = w6.heap[k]?) ∧ W'.heap.size = w6.heap.size ∧ W'.os = w6.os ∧ W'.output = w6.output) ?_ ?_
      · refine ⟨fun k hk => ?_, by simp [World.setCell], rfl, rfl⟩
        exact (Below.heap_setCell _ _ _ _ hk).trans ((Below.heap_setCell _ _ _ _ hk).trans (Below.heap_setCell _ _ _ _ hk))
      rintro w9 ⟨h9, hs9, ho9⟩
      obtain ⟨I', hI, hcall⟩ := made9 hn (f := 2) (by omega) (mod9 (f := 2) HM4.out HF4.out HFb.out H.out HCS.out.1 HCS.out.2.1 HCS.out.2.2 hm4 h9 hs9 ho9) (came2 n hn)
      refine hcall.mono ?_
      rintro e w10 ⟨iB, S10, L10, hres, hsi, hro, hS, hk10⟩
      have HFIN := Lib.hid (HS0.out.trans (chain9 HB3.out HWM.out HB4.out HS4.out H.out.bel h9 hs9 ho9 hro))
      rcases hres with ⟨he, rfl⟩ | ⟨he, rfl⟩
      · clear h9 hs9 ho9 hro hsi hS hk10 hI he
        go_wp2
        go_ret
        exact ⟨rfl, HFIN.out⟩
      · exact absurd he (by decide)
end Go.Proofs.YtjbdldekllffkaaGreatDoor
