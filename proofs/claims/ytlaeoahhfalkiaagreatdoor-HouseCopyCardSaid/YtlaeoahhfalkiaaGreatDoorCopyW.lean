/- The law HouseCopy: its call answers true. -/
import Derived.Test.YtlaeoahhfalkiaaGreatDoorHcR0
import Derived.Test.YtlaeoahhfalkiaaGreatDoorGlue
set_option linter.unusedVariables false
namespace Go.Vm.Hc
open Go.Vm Go.Proofs Go.RowKit
abbrev e0 : Nat → Int := fun _ => 0
theorem begun_c (w : World) : Calls Tryz.prog 6 #[] w fun e w' => e = .returned (.bool true) ∧ Below w.heap.size w w' :=
  tree_calls (cx := cx0) hT_0 mixed_ok (hF_0 _) (by decide) (env := fun _ => 0) (d := .leaf (.c true)) run6 rfl (rel_nil _ w) .nil
theorem copy_calls (n0 : Int) (w0 : (Lit.int .u16 n0).wf = true) (W : World) : Calls Tryz.prog 5 #[.int .u16 n0] W fun e W' => e = .returned (.bool true) ∧ Below W.heap.size W W' := by
  have r1 := (Lit.wf_int_iff _ _).1 w0
  have m1 : IntKind.min .u16 = 0 := by decide
  have x1 : IntKind.max .u16 = 65535 := by decide
  rw [m1, x1] at r1
  obtain ⟨k, rfl⟩ : ∃ k : Nat, n0 = k := ⟨n0.toNat, by omega⟩
  have hk : k < 65536 := by omega
  clear r1 m1 x1 w0
  go_enter Tryz.func5, Tryz.ntmps5
  go_wp2_with fail
  refine (begun_c _).mono ?_
  rintro e w1 ⟨rfl, hb1⟩
  go_wp2_with fail
  refine (tree_rel hT_b mixed_ok hF_b (by decide) New_r trivial (rel_nil e0 w1) .nil).mono ?_
  rintro e w2 ⟨r, rfl, hb2, M2, k2, R2, v2⟩
  obtain ⟨hp, hM2, rfl⟩ := v2.ptr0
  go_wp2_with fail
  refine (tree_rel hT_b mixed_ok hF_b (by decide) Fixed_r trivial R2 .nil).mono ?_
  rintro e w3 ⟨r, rfl, hb3, M3, k3, R3, v3⟩
  have hM3 := k3 64 hp (by kernel_rfl) hM2
  go_wp2_with fail
  refine (tree_rel hT_b mixed_ok hF_b (by decide) Make_r trivial R3 (.cons _ _ _ _ (.p0 64 hp hM3) (.cons _ _ _ _ v3 (.cons _ _ _ _ (ofValue_ok _ _ rfl) .nil)))).mono ?_
  rintro e w4 ⟨r, rfl, hb4, M4, k4, R4, v4⟩
  have hM4 := k4 64 hp (by kernel_rfl) hM3
  obtain ⟨z0, z1, rfl, -, -⟩ := v4.tup2
  go_wp2_with fail
  refine (tree_rel hT_b mixed_ok hF_b (by decide) Room_r trivial R4 (.cons _ _ _ _ (.p0 64 hp hM4) (.cons _ _ _ _ (.i _ _) .nil))).mono ?_
  rintro e w5 ⟨r, rfl, hb5, M5, k5, R5, v5⟩
  have hM5 := k5 64 hp (by kernel_rfl) hM4
  obtain ⟨i0, i1, i2, rfl, u0, -, -⟩ := v5.tup3
  obtain ⟨ip, hI5, rfl⟩ := u0.ptr0
  obtain ⟨mv, cm, um⟩ := R5.cellK (b := 103) hI5 14 (.sl (some (104, 0)) 65536 65536) (by kernel_rfl)
  obtain ⟨gv, cg, ug⟩ := R5.cellK (b := 103) hI5 16 (.sl (some (105, 0)) 1 1) (by kernel_rfl)
  obtain ⟨mp, mc, hMm, mle, mfit, -, rfl⟩ := um.slw0 (by decide)
  obtain ⟨gp, gc, hMg, gle, gfit, -, rfl⟩ := ug.slw0 (by decide)
  have H := Lib.hid (And.intro hb1 (And.intro hb2 (And.intro hb3 (And.intro hb4 (And.intro hb5 (And.intro R5 (And.intro hM5 (And.intro hI5 (And.intro hMm (And.intro hMg (And.intro mle (And.intro mfit gle))))))))))))
  clear v2 v3 v4 v5 u0 um ug hb2 hb3 hb4 hb5 R2 R3 R4 R5 k2 k3 k4 k5 hM2 hM3 hM4 hM5 hI5 hMm hMg mle mfit gle gfit hb1
  go_wp2_with fail
  obtain ⟨R5, hM5, hI5, hMm⟩ := H.out.2.2.2.2.2
  refine (tree_rel hT_b mixed_ok hF_b (by decide) Copy_r trivial R5 (.cons _ _ _ _ (.p0 103 ip hI5) .nil)).mono ?_
  rintro e w6 ⟨r, rfl, hb6, M6, k6, R6, v6⟩
  have hM6 := k6 64 hp (by kernel_rfl) hM5
  have hI6 := k6 103 ip (by kernel_rfl) hI5
  have hMm6 := k6 104 mp (by kernel_rfl) hMm.1
  have hMg6 := k6 105 gp (by kernel_rfl) hMm.2.1
  obtain ⟨cp, hC6, rfl⟩ := v6.ptr0
  obtain ⟨mv, dm, um⟩ := R6.cellK (b := 103) hI6 14 (.sl (some (104, 0)) 65536 65536) (by kernel_rfl)
  obtain ⟨mp', mc6, hq, mle6, mfit6, -, rfl⟩ := um.slw0 (by decide)
  rw [hMm6] at hq; cases hq
  obtain ⟨zv, zc, uz⟩ := R6.cellK (b := 104) hMm6 k (.i .u8 (.c (.ofNat 0))) ((by kernel_rfl : cellT Copy_0.T 104 k = RL.get [(V.i .u8 (.c (.ofNat 0)), 65536)] k).trans (get_one _ _ _ hk))
  have zz := uz.intv
  subst zz
  have zf := R6.freeK (b := 104) (by decide) hMm6 k (by rw [show lenT Copy_0.T 104 = 65536 by kernel_rfl]; exact Nat.ble_eq_true_of_le (by omega))
  have H6 := Lib.hid (And.intro hb6 (And.intro R6 (And.intro hM6 (And.intro hI6 (And.intro hMm6 (And.intro hMg6 (And.intro hC6 mle6)))))))
  clear v6 um uz hb6 R6 hM6 hI6 hMm6 hMg6 hC6 mle6 R5 hM5 hI5 hMm k6 cm cg
  have hk0 : decide ((k : Int) < 65536) = true := decide_eq_true (by omega)
  go_upto_region 10 with (fail)
  generalize bits BinOp.xor IntKind.u8 _ 7 = y
  obtain ⟨hb6, R6, hM6, hI6, hMm6, hMg6, hC6, mle6⟩ := H6.out
  have low6 := R6.lowK (b := 104) (by decide) hMm6 (by kernel_rfl)
  have R7 := R6.wildK (b := 104) (by decide) hMm6 (h' := Tr.set Copy_0.T 104 (.cells 5 1 false false [(.i .u8 (.c (.ofNat 0)), 65536)])) (by kernel_rfl) ⟨mp.blk, mp.off + k, none⟩ rfl (.int .u8 y)
  have b7 := setCell_bel (B := w1.heap.size) w6 ⟨mp.blk, mp.off + k, none⟩ (.int .u8 y) low6
  generalize w6.setCell ⟨mp.blk, mp.off + k, none⟩ (.int .u8 y) = w7 at R7 b7
  obtain ⟨gv, dg, ug⟩ := R7.cellK (b := 103) hI6 16 (.sl (some (105, 0)) 1 1) (by kernel_rfl)
  obtain ⟨gp', gc7, hq, gle7, gfit7, -, rfl⟩ := ug.slw0 (by decide)
  rw [hMg6] at hq; cases hq
  have zf7 : w7.frozen? ⟨gp.blk, gp.off, none⟩ = false := R7.freeK (b := 105) (by decide) hMg6 0 (by kernel_rfl)
  obtain ⟨zv, zc7, uz⟩ := R7.cellK (b := 105) hMg6 0 (.i .u64 (.c (.ofNat 0))) (by kernel_rfl)
  have zz := uz.intv
  subst zz
  replace zc7 : w7.cell? ⟨gp.blk, gp.off, none⟩ = _ := zc7
  have low7 := R7.lowK (b := 105) (by decide) hMg6 (by kernel_rfl)
  have R8 := R7.wildK (b := 105) (by decide) hMg6 (h' := Tr.set (Tr.set Copy_0.T 104 (.cells 5 1 false false [(.i .u8 (.c (.ofNat 0)), 65536)])) 105 (.cells 43 1 false false [(.i .u64 (.c (.ofNat 0)), 1)])) (by kernel_rfl) ⟨gp.blk, gp.off, none⟩ rfl (.int .u64 9)
  have b8 := setCell_bel (B := w1.heap.size) w7 ⟨gp.blk, gp.off, none⟩ (.int .u64 9) low7
  have R9 := R8.told (T := t6) (l := []) (s := sAt []) (by kernel_rfl)
  have hM9 : mpS (sg t6 []) M6 64 = some hp := by rw [← hM6]; kernel_rfl
  have hC9 : mpS (sg t6 []) M6 108 = some cp := by rw [← hC6]; kernel_rfl
  have H9 := Lib.hid (And.intro hb6 (And.intro R9 (And.intro hM9 (And.intro hC9 (And.intro b7 b8)))))
  clear R7 R8 R9 hM9 hC9 b7 b8 hb6 R6 hM6 hI6 hMm6 hMg6 hC6 mle6 low6 low7 ug gle7 gfit7 dm zc zf H6 hk0
  go_upto_region 11 with (fail)
  obtain ⟨hb6, R9, hM9, hC9, b7, b8⟩ := H9.out
  generalize w7.setCell ⟨gp.blk, gp.off, none⟩ (.int .u64 9) = w9 at R9 b8
  clear dg zf7 zc7 uz
  go_wp2_with fail
  refine (tree_rel hT_b mixed_ok hF_b (by decide) Room2_r trivial R9 (.cons _ _ _ _ (.p0 64 hp hM9) (.cons _ _ _ _ (.i _ _) .nil))).mono ?_
  rintro e w10 ⟨r, rfl, hb10, M10, k10, R10, v10⟩
  have hC10 := k10 108 cp (by kernel_rfl) hC9
  obtain ⟨j0, j1, j2, rfl, u0, -, -⟩ := v10.tup3
  obtain ⟨jp, hJ, rfl⟩ := u0.ptr0
  go_wp2_with fail
  refine (tree_rel hT_b mixed_ok hF_b (by decide) Same_r trivial R10 (.cons _ _ _ _ (.p0 113 jp hJ) (.cons _ _ _ _ (.p0 108 cp hC10) .nil))).mono ?_
  rintro e w11 ⟨r, rfl, hb11, M11, k11, R11, v11⟩
  cases v11.boolv
  obtain ⟨hb1, hb2, hb3, hb4, hb5, -⟩ := H.out
  have hb := hb1.trans (((hb2.trans (hb3.trans (hb4.trans (hb5.trans (hb6.trans (b7.trans (b8.trans (hb10.trans hb11)))))))).mono hb1.size))
  have HB := Lib.hid hb
  clear hb hb1 hb2 hb3 hb4 hb5 hb6 b7 b8 hb10 hb11
  go_wp2
  trace_state
  go_ret
  exact ⟨rfl, HB.out⟩
end Go.Vm.Hc
