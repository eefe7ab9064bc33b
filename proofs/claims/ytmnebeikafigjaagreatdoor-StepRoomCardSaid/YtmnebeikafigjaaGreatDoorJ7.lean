/- Lemmas of the walk, part 7. -/
import Derived.Test.YtmnebeikafigjaaGreatDoorJ6
import Derived.KernelRfl
import Derived.Test.YtmnebeikafigjaaGreatDoorJ0
import Derived.Maps.OwnSet
import Derived.Maps.Views
import Derived.Test.YtmnebeikafigjaaGreatDoorJ1
import Derived.BigQuiet
/- num at the fixed module's instructions. -/
set_option linter.unusedVariables false
namespace Go.Proofs.YtmnebeikafigjaaGreatDoor
open Go.RowKit Go.Sep Go.St
variable {w : World}
theorem is_69 (w : World) : Calls Tryz.prog 99 #[.int .i64 69] w fun e w' => e = .returned (.int .i64 1) ∧ w' = w := by
  go_enter Tryz.func99, Tryz.ntmps99
  go_wp2
  exact bodyPost_ret (v := .int .i64 1) (by simp [results, Tryz.results99, go_sem]) rfl ⟨rfl, rfl⟩
theorem is_106 (w : World) : Calls Tryz.prog 99 #[.int .i64 106] w fun e w' => e = .returned (.int .i64 2) ∧ w' = w := by
  go_enter Tryz.func99, Tryz.ntmps99
  go_wp2
  exact bodyPost_ret (v := .int .i64 2) (by simp [results, Tryz.results99, go_sem]) rfl ⟨rfl, rfl⟩
theorem is_107 (w : World) : Calls Tryz.prog 99 #[.int .i64 107] w fun e w' => e = .returned (.int .i64 2) ∧ w' = w := by
  go_enter Tryz.func99, Tryz.ntmps99
  go_wp2
  exact bodyPost_ret (v := .int .i64 2) (by simp [results, Tryz.results99, go_sem]) rfl ⟨rfl, rfl⟩
theorem flag_c (w : World) (b : Bool) : Calls Tryz.prog 144 #[.bool b] w fun e w' => e = .returned (.int .u64 (if b then 1 else 0)) ∧ w' = w := by
  cases b with
  | true =>
    go_enter Tryz.func144, Tryz.ntmps144
    go_wp2
    exact bodyPost_ret (v := .int .u64 1) (by simp [results, Tryz.results144, go_sem]) rfl ⟨rfl, rfl⟩
  | false =>
    go_enter Tryz.func144, Tryz.ntmps144
    go_wp2
    exact bodyPost_ret (v := .int .u64 0) (by simp [results, Tryz.results144, go_sem]) rfl ⟨rfl, rfl⟩
theorem cut_32 (w : World) (x : Int) (h : 0 ≤ x ∧ x < 18446744073709551616) : Calls Tryz.prog 154 #[.agg #[.int .i64 32], .int .u64 x] w fun e w' => e = .returned (.int .u64 (lowI x)) ∧ Still w w' := by
  have hl := and_low x h.1 h.2
  clear h
  go_enter Tryz.func154, Tryz.ntmps154
  go_wp2
  exact bodyPost_ret (v := .int .u64 (lowI x)) (by simp [results, Tryz.results154, go_sem]) rfl ⟨rfl, (Still.refl w).alloc _⟩
theorem reck_add (w : World) (x y : Int) : Calls Tryz.prog 153 #[.agg #[.int .i64 32], .int .i64 0, .int .u64 x, .int .u64 y] w fun e w' => e = .returned (.tuple #[.int .u64 (IntKind.u64.wrap (x + y)), .int .i64 0]) ∧ Still w w' := by
  go_enter Tryz.func153, Tryz.ntmps153
  go_wp2
  exact bodyPost_ret (v := .tuple #[.int .u64 (IntKind.u64.wrap (x + y)), .int .i64 0]) (by simp [results, Tryz.results153, go_sem]) rfl ⟨rfl, (Still.refl w).alloc _⟩
theorem reck_sub (w : World) (x y : Int) : Calls Tryz.prog 153 #[.agg #[.int .i64 32], .int .i64 1, .int .u64 x, .int .u64 y] w fun e w' => e = .returned (.tuple #[.int .u64 (IntKind.u64.wrap (x - y)), .int .i64 0]) ∧ Still w w' := by
  go_enter Tryz.func153, Tryz.ntmps153
  go_wp2
  exact bodyPost_ret (v := .tuple #[.int .u64 (IntKind.u64.wrap (x - y)), .int .i64 0]) (by simp [results, Tryz.results153, go_sem]) rfl ⟨rfl, (Still.refl w).alloc _⟩
theorem one_69 (w : World) (x : Int) : Calls Tryz.prog 100 #[.int .i64 69, .int .u64 x] w fun e w' => e = .returned (.tuple #[.int .u64 (if lowI x == 0 then 1 else 0), .bool true]) ∧ w' = w := by
  have hl := low_wrap x
  have hf := flag_c w (lowI x == 0)
  generalize (if (lowI x == 0) = true then (1 : Int) else 0) = r at hf ⊢
  have HF := Lib.hid hf
  clear hf
  go_enter Tryz.func100, Tryz.ntmps100
  go_wp2_with fail
  refine HF.out.mono ?_
  rintro e w1 ⟨rfl, rfl⟩
  go_wp2
  exact bodyPost_ret (v := .tuple #[.int .u64 r, .bool true]) (by simp [results, Tryz.results100, go_sem]) rfl ⟨rfl, rfl⟩
theorem low_range (v : Int) : 0 ≤ lowI v ∧ lowI v < 18446744073709551616 := by unfold lowI; omega
theorem wrap64_range (v : Int) : 0 ≤ IntKind.u64.wrap v ∧ IntKind.u64.wrap v < 18446744073709551616 := by simp [IntKind.wrap, IntKind.bits, IntKind.signed]; omega
set_option maxHeartbeats 1000000 in
theorem two_106 (w : World) (x y : Int) (hx : 0 ≤ x ∧ x < 18446744073709551616) (hy : 0 ≤ y ∧ y < 18446744073709551616) : Calls Tryz.prog 101 #[.int .i64 106, .int .u64 x, .int .u64 y] w fun e w' => e = .returned (.tuple #[.int .u64 (lowI (IntKind.u64.wrap (lowI x + lowI y))), .int .i64 0]) ∧ Still w w' := by
  have CA := Lib.hid (fun w => cut_32 w x hx)
  have CB := Lib.hid (fun w => cut_32 w y hy)
  have CC := Lib.hid (fun w => reck_add w (lowI x) (lowI y))
  have CD := Lib.hid (fun w => cut_32 w (IntKind.u64.wrap (lowI x + lowI y)) (wrap64_range _))
  clear hx hy
  go_enter Tryz.func101, Tryz.ntmps101
  go_wp2_with fail
  refine (is_106 _).mono ?_
  rintro e w1 ⟨rfl, rfl⟩
  go_wp2_with fail
  have c8 : (w1.alloc (.cells #[.int .i64 32] 237)).cell? ⟨w1.heap.size, 0, none⟩ = some (.int .i64 32) := by simp
  have Q := Lib.hid ((Still.refl w1).alloc (.cells #[.int .i64 32] 237))
  generalize w1.alloc (.cells #[.int .i64 32] 237) = w2 at *
  generalize w1.heap.size = tB at *
  have KEY := Lib.hid (fun (w' : World) (q : Still w2 w') => (⟨Lib.hid q, q.cell c8⟩ : Hid (Still w2 w') ∧ w'.cell? ⟨tB, 0, none⟩ = some (.int .i64 32)))
  clear c8
  refine wp_region_z (fun w' => Hid (Still w2 w') ∧ w'.cell? ⟨tB, 0, none⟩ = some (.int .i64 32)) (fun j => j == 8 || j == 9 || j == 10 || j == 11 || j == 12 || j == 13) (by kernel_rfl) ?_ (fun hHeld => ?_)
  · first | exact KEY.out _ (hHeld.1.out.trans QB.out) | exact KEY.out _ (hHeld.1.out.trans QA.out) | exact KEY.out _ (Still.refl _).drew
  (refine wpZ_take (i := 0) (oi := ⟨some 59, .load 237 (.tmp 8), 237, _, _, none⟩) (v := ?_) rfl (by kernel_rfl) (fun _ _ _ h => h) (by assumption) (Or.inl ⟨by rfl, ?_⟩) ?_; rotate_left 1; · ((intro w hSw; (try dsimp only at hSw); go_split_ands; go_simp) <;> (try with_reducible rfl)))
  try simp only [Act.put, List.setIfInBounds_toArray, List.set_cons_zero, List.set_cons_succ]
  (refine wpZ_take (i := 1) (oi := ⟨some 60, .move (.tmp 9), 3, _, _, none⟩) (v := ?_) rfl (by kernel_rfl) (fun _ _ _ h => h) (by assumption) (Or.inl ⟨by rfl, ?_⟩) ?_; rotate_left 1; · ((intro w hSw; (try dsimp only at hSw); go_split_ands; go_simp) <;> (try with_reducible rfl)))
  try simp only [Act.put, List.setIfInBounds_toArray, List.set_cons_zero, List.set_cons_succ]
  (refine wpZ_take (i := 2) (oi := ⟨some 61, .load 237 (.tmp 8), 237, _, _, none⟩) (v := ?_) rfl (by kernel_rfl) (fun _ _ _ h => h) (by assumption) (Or.inl ⟨by rfl, ?_⟩) ?_; rotate_left 1; · ((intro w hSw; (try dsimp only at hSw); go_split_ands; go_simp) <;> (try with_reducible rfl)))
  try simp only [Act.put, List.setIfInBounds_toArray, List.set_cons_zero, List.set_cons_succ]
  (refine wpZ_take (i := 3) (oi := ⟨some 62, .move (.tmp 1), 26, _, _, none⟩) (v := ?_) rfl (by kernel_rfl) (fun _ _ _ h => h) (by assumption) (Or.inl ⟨by rfl, ?_⟩) ?_; rotate_left 1; · ((intro w hSw; (try dsimp only at hSw); go_split_ands; go_simp) <;> (try with_reducible rfl)))
  try simp only [Act.put, List.setIfInBounds_toArray, List.set_cons_zero, List.set_cons_succ]
  (refine wpZ_take (i := 5) (oi := ⟨some 64, .load 237 (.tmp 8), 237, _, _, none⟩) (v := ?_) rfl (by kernel_rfl) (fun _ _ _ h => h) (by assumption) (Or.inl ⟨by rfl, ?_⟩) ?_; rotate_left 1; · ((intro w hSw; (try dsimp only at hSw); go_split_ands; go_simp) <;> (try with_reducible rfl)))
  try simp only [Act.put, List.setIfInBounds_toArray, List.set_cons_zero, List.set_cons_succ]
  (refine wpZ_take (i := 6) (oi := ⟨some 65, .move (.tmp 2), 26, _, _, none⟩) (v := ?_) rfl (by kernel_rfl) (fun _ _ _ h => h) (by assumption) (Or.inl ⟨by rfl, ?_⟩) ?_; rotate_left 1; · ((intro w hSw; (try dsimp only at hSw); go_split_ands; go_simp) <;> (try with_reducible rfl)))
  try simp only [Act.put, List.setIfInBounds_toArray, List.set_cons_zero, List.set_cons_succ]
  refine wpZ_one (i := 4) (oi := ⟨some 63, .call { callee := .value (.func 154), args := #[.tmp 61, .tmp 62], argTypes := #[237, 26] }, 26, _, _, none⟩) rfl (by kernel_rfl) (fun K hK => ?_)
  go_simp; refine (CA.out _).mono ?_; rintro e wA ⟨rfl, hq⟩; have QA := Lib.hid hq; clear hq; go_wp2_with fail
  refine hK.out _ _ (fun _ => by (first | exact KEY.out _ (hHeld.1.out.trans QB.out) | exact KEY.out _ (hHeld.1.out.trans QA.out) | exact KEY.out _ (Still.refl _).drew)) (fun hh => ?_)
  have hHeld := hh rfl
  clear hK K
  try simp only [Act.put, List.setIfInBounds_toArray, List.set_cons_zero, List.set_cons_succ]
  refine wpZ_one (i := 7) (oi := ⟨some 66, .call { callee := .value (.func 154), args := #[.tmp 64, .tmp 65], argTypes := #[237, 26] }, 26, _, _, none⟩) rfl (by kernel_rfl) (fun K hK => ?_)
  go_simp; refine (CB.out _).mono ?_; rintro e wB ⟨rfl, hq⟩; have QB := Lib.hid hq; clear hq; go_wp2_with fail
  refine hK.out _ _ (fun _ => by (first | exact KEY.out _ (hHeld.1.out.trans QB.out) | exact KEY.out _ (hHeld.1.out.trans QA.out) | exact KEY.out _ (Still.refl _).drew)) (fun hh => ?_)
  have hHeld := hh rfl
  clear hK K
  try simp only [Act.put, List.setIfInBounds_toArray, List.set_cons_zero, List.set_cons_succ]
  refine wpZ_one (i := 8) (oi := ⟨some 67, .call { callee := .value (.func 153), args := #[.tmp 59, .tmp 60, .tmp 63, .tmp 66], argTypes := #[237, 3, 26, 26] }, 160, _, _, none⟩) rfl (by kernel_rfl) (fun K hK => ?_)
  go_simp; refine (CC.out _).mono ?_; rintro e wC ⟨rfl, hq⟩; have tC := hq.cell hHeld.2; have QC := Lib.hid (hHeld.1.out.trans hq); clear hq hHeld; go_wp2_with fail
  refine hK.out _ _ (fun h => by simp at h) (fun _ => ?_)
  clear hK K
  try simp only [Act.put, List.setIfInBounds_toArray, List.set_cons_zero, List.set_cons_succ]
  refine wpZ_one (i := 9) (oi := ⟨some 58, .move (.tmp 67), 160, _, _, none⟩) rfl (by kernel_rfl) (fun K hK => ?_)
  go_simp
  refine hK.out _ _ (fun h => by simp at h) (fun _ => ?_)
  clear hK K
  try simp only [Act.put, List.setIfInBounds_toArray, List.set_cons_zero, List.set_cons_succ]
  refine wpZ_two (i := 10) (j := 11) (oi := ⟨some 68, .extract (.tmp 58) 0, 26, _, _, none⟩) (oj := ⟨some 69, .extract (.tmp 58) 1, 32, _, _, none⟩) rfl rfl (by kernel_rfl) (fun K hK => ?_) (fun K hK => ?_)
  ·
    go_simp
    refine hK.out _ _ (fun h => by simp at h) (fun _ => ?_)
    clear hK K
    try simp only [Act.put, List.setIfInBounds_toArray, List.set_cons_zero, List.set_cons_succ]
    refine wpZ_two (i := 11) (j := 12) (oi := ⟨some 69, .extract (.tmp 58) 1, 32, _, _, none⟩) (oj := ⟨some 6, .assign (.tmp 68), 26, _, _, none⟩) rfl rfl (by kernel_rfl) (fun K hK => ?_) (fun K hK => ?_)
    ·
      go_simp
      refine hK.out _ _ (fun h => by simp at h) (fun _ => ?_)
      clear hK K
      try simp only [Act.put, List.setIfInBounds_toArray, List.set_cons_zero, List.set_cons_succ]
      refine wpZ_one (i := 12) (oi := ⟨some 6, .assign (.tmp 68), 26, _, _, none⟩) rfl (by kernel_rfl) (fun K hK => ?_)
      go_simp
      refine hK.out _ _ (fun h => by simp at h) (fun _ => ?_)
      clear hK K
      try simp only [Act.put, List.setIfInBounds_toArray, List.set_cons_zero, List.set_cons_succ]
      refine wpZ_one (i := 13) (oi := ⟨some 7, .assign (.tmp 69), 32, _, _, none⟩) rfl (by kernel_rfl) (fun K hK => ?_)
      go_simp
      refine hK.out _ _ (fun h => by simp at h) (fun _ => ?_)
      clear hK K
      try simp only [Act.put, List.setIfInBounds_toArray, List.set_cons_zero, List.set_cons_succ]
      refine wpZ_done (by kernel_rfl) ?_ _
      go_wp2_with fail; refine (CD.out _).mono ?_; rintro e wD ⟨rfl, hq⟩; have QD := Lib.hid (Q.out.trans (QC.out.trans hq)); clear hq; go_wp2; exact bodyPost_ret (v := .tuple #[.int .u64 (lowI (IntKind.u64.wrap (lowI x + lowI y))), .int .i64 0]) (by simp [results, Tryz.results101, go_sem]) rfl ⟨rfl, QD.out⟩
    ·
      go_simp
      refine hK.out _ _ (fun h => by simp at h) (fun _ => ?_)
      clear hK K
      try simp only [Act.put, List.setIfInBounds_toArray, List.set_cons_zero, List.set_cons_succ]
      refine wpZ_one (i := 11) (oi := ⟨some 69, .extract (.tmp 58) 1, 32, _, _, none⟩) rfl (by kernel_rfl) (fun K hK => ?_)
      go_simp
      refine hK.out _ _ (fun h => by simp at h) (fun _ => ?_)
      clear hK K
      try simp only [Act.put, List.setIfInBounds_toArray, List.set_cons_zero, List.set_cons_succ]
      refine wpZ_one (i := 13) (oi := ⟨some 7, .assign (.tmp 69), 32, _, _, none⟩) rfl (by kernel_rfl) (fun K hK => ?_)
      go_simp
      refine hK.out _ _ (fun h => by simp at h) (fun _ => ?_)
      clear hK K
      try simp only [Act.put, List.setIfInBounds_toArray, List.set_cons_zero, List.set_cons_succ]
      refine wpZ_done (by kernel_rfl) ?_ _
      go_wp2_with fail; refine (CD.out _).mono ?_; rintro e wD ⟨rfl, hq⟩; have QD := Lib.hid (Q.out.trans (QC.out.trans hq)); clear hq; go_wp2; exact bodyPost_ret (v := .tuple #[.int .u64 (lowI (IntKind.u64.wrap (lowI x + lowI y))), .int .i64 0]) (by simp [results, Tryz.results101, go_sem]) rfl ⟨rfl, QD.out⟩
  ·
    go_simp
    refine hK.out _ _ (fun h => by simp at h) (fun _ => ?_)
    clear hK K
    try simp only [Act.put, List.setIfInBounds_toArray, List.set_cons_zero, List.set_cons_succ]
    refine wpZ_one (i := 10) (oi := ⟨some 68, .extract (.tmp 58) 0, 26, _, _, none⟩) rfl (by kernel_rfl) (fun K hK => ?_)
    go_simp
    refine hK.out _ _ (fun h => by simp at h) (fun _ => ?_)
    clear hK K
    try simp only [Act.put, List.setIfInBounds_toArray, List.set_cons_zero, List.set_cons_succ]
    refine wpZ_one (i := 12) (oi := ⟨some 6, .assign (.tmp 68), 26, _, _, none⟩) rfl (by kernel_rfl) (fun K hK => ?_)
    go_simp
    refine hK.out _ _ (fun h => by simp at h) (fun _ => ?_)
    clear hK K
    try simp only [Act.put, List.setIfInBounds_toArray, List.set_cons_zero, List.set_cons_succ]
    refine wpZ_one (i := 13) (oi := ⟨some 7, .assign (.tmp 69), 32, _, _, none⟩) rfl (by kernel_rfl) (fun K hK => ?_)
    go_simp
    refine hK.out _ _ (fun h => by simp at h) (fun _ => ?_)
    clear hK K
    try simp only [Act.put, List.setIfInBounds_toArray, List.set_cons_zero, List.set_cons_succ]
    refine wpZ_done (by kernel_rfl) ?_ _
    go_wp2_with fail; refine (CD.out _).mono ?_; rintro e wD ⟨rfl, hq⟩; have QD := Lib.hid (Q.out.trans (QC.out.trans hq)); clear hq; go_wp2; exact bodyPost_ret (v := .tuple #[.int .u64 (lowI (IntKind.u64.wrap (lowI x + lowI y))), .int .i64 0]) (by simp [results, Tryz.results101, go_sem]) rfl ⟨rfl, QD.out⟩
set_option maxHeartbeats 1000000 in
theorem two_107 (w : World) (x y : Int) (hx : 0 ≤ x ∧ x < 18446744073709551616) (hy : 0 ≤ y ∧ y < 18446744073709551616) : Calls Tryz.prog 101 #[.int .i64 107, .int .u64 x, .int .u64 y] w fun e w' => e = .returned (.tuple #[.int .u64 (lowI (IntKind.u64.wrap (lowI x - lowI y))), .int .i64 0]) ∧ Still w w' := by
  have CA := Lib.hid (fun w => cut_32 w x hx)
  have CB := Lib.hid (fun w => cut_32 w y hy)
  have CC := Lib.hid (fun w => reck_sub w (lowI x) (lowI y))
  have CD := Lib.hid (fun w => cut_32 w (IntKind.u64.wrap (lowI x - lowI y)) (wrap64_range _))
  clear hx hy
  go_enter Tryz.func101, Tryz.ntmps101
  go_wp2_with fail
  refine (is_107 _).mono ?_
  rintro e w1 ⟨rfl, rfl⟩
  go_wp2_with fail
  have c8 : (w1.alloc (.cells #[.int .i64 32] 237)).cell? ⟨w1.heap.size, 0, none⟩ = some (.int .i64 32) := by simp
  have Q := Lib.hid ((Still.refl w1).alloc (.cells #[.int .i64 32] 237))
  generalize w1.alloc (.cells #[.int .i64 32] 237) = w2 at *
  generalize w1.heap.size = tB at *
  have KEY := Lib.hid (fun (w' : World) (q : Still w2 w') => (⟨Lib.hid q, q.cell c8⟩ : Hid (Still w2 w') ∧ w'.cell? ⟨tB, 0, none⟩ = some (.int .i64 32)))
  clear c8
  refine wp_region_z (fun w' => Hid (Still w2 w') ∧ w'.cell? ⟨tB, 0, none⟩ = some (.int .i64 32)) (fun j => j == 8 || j == 9 || j == 10 || j == 11 || j == 12 || j == 13) (by kernel_rfl) ?_ (fun hHeld => ?_)
  · first | exact KEY.out _ (hHeld.1.out.trans QB.out) | exact KEY.out _ (hHeld.1.out.trans QA.out) | exact KEY.out _ (Still.refl _).drew
  (refine wpZ_take (i := 0) (oi := ⟨some 59, .load 237 (.tmp 8), 237, _, _, none⟩) (v := ?_) rfl (by kernel_rfl) (fun _ _ _ h => h) (by assumption) (Or.inl ⟨by rfl, ?_⟩) ?_; rotate_left 1; · ((intro w hSw; (try dsimp only at hSw); go_split_ands; go_simp) <;> (try with_reducible rfl)))
  try simp only [Act.put, List.setIfInBounds_toArray, List.set_cons_zero, List.set_cons_succ]
  (refine wpZ_take (i := 1) (oi := ⟨some 60, .move (.tmp 9), 3, _, _, none⟩) (v := ?_) rfl (by kernel_rfl) (fun _ _ _ h => h) (by assumption) (Or.inl ⟨by rfl, ?_⟩) ?_; rotate_left 1; · ((intro w hSw; (try dsimp only at hSw); go_split_ands; go_simp) <;> (try with_reducible rfl)))
  try simp only [Act.put, List.setIfInBounds_toArray, List.set_cons_zero, List.set_cons_succ]
  (refine wpZ_take (i := 2) (oi := ⟨some 61, .load 237 (.tmp 8), 237, _, _, none⟩) (v := ?_) rfl (by kernel_rfl) (fun _ _ _ h => h) (by assumption) (Or.inl ⟨by rfl, ?_⟩) ?_; rotate_left 1; · ((intro w hSw; (try dsimp only at hSw); go_split_ands; go_simp) <;> (try with_reducible rfl)))
  try simp only [Act.put, List.setIfInBounds_toArray, List.set_cons_zero, List.set_cons_succ]
  (refine wpZ_take (i := 3) (oi := ⟨some 62, .move (.tmp 1), 26, _, _, none⟩) (v := ?_) rfl (by kernel_rfl) (fun _ _ _ h => h) (by assumption) (Or.inl ⟨by rfl, ?_⟩) ?_; rotate_left 1; · ((intro w hSw; (try dsimp only at hSw); go_split_ands; go_simp) <;> (try with_reducible rfl)))
  try simp only [Act.put, List.setIfInBounds_toArray, List.set_cons_zero, List.set_cons_succ]
  (refine wpZ_take (i := 5) (oi := ⟨some 64, .load 237 (.tmp 8), 237, _, _, none⟩) (v := ?_) rfl (by kernel_rfl) (fun _ _ _ h => h) (by assumption) (Or.inl ⟨by rfl, ?_⟩) ?_; rotate_left 1; · ((intro w hSw; (try dsimp only at hSw); go_split_ands; go_simp) <;> (try with_reducible rfl)))
  try simp only [Act.put, List.setIfInBounds_toArray, List.set_cons_zero, List.set_cons_succ]
  (refine wpZ_take (i := 6) (oi := ⟨some 65, .move (.tmp 2), 26, _, _, none⟩) (v := ?_) rfl (by kernel_rfl) (fun _ _ _ h => h) (by assumption) (Or.inl ⟨by rfl, ?_⟩) ?_; rotate_left 1; · ((intro w hSw; (try dsimp only at hSw); go_split_ands; go_simp) <;> (try with_reducible rfl)))
  try simp only [Act.put, List.setIfInBounds_toArray, List.set_cons_zero, List.set_cons_succ]
  refine wpZ_one (i := 4) (oi := ⟨some 63, .call { callee := .value (.func 154), args := #[.tmp 61, .tmp 62], argTypes := #[237, 26] }, 26, _, _, none⟩) rfl (by kernel_rfl) (fun K hK => ?_)
  go_simp; refine (CA.out _).mono ?_; rintro e wA ⟨rfl, hq⟩; have QA := Lib.hid hq; clear hq; go_wp2_with fail
  refine hK.out _ _ (fun _ => by (first | exact KEY.out _ (hHeld.1.out.trans QB.out) | exact KEY.out _ (hHeld.1.out.trans QA.out) | exact KEY.out _ (Still.refl _).drew)) (fun hh => ?_)
  have hHeld := hh rfl
  clear hK K
  try simp only [Act.put, List.setIfInBounds_toArray, List.set_cons_zero, List.set_cons_succ]
  refine wpZ_one (i := 7) (oi := ⟨some 66, .call { callee := .value (.func 154), args := #[.tmp 64, .tmp 65], argTypes := #[237, 26] }, 26, _, _, none⟩) rfl (by kernel_rfl) (fun K hK => ?_)
  go_simp; refine (CB.out _).mono ?_; rintro e wB ⟨rfl, hq⟩; have QB := Lib.hid hq; clear hq; go_wp2_with fail
  refine hK.out _ _ (fun _ => by (first | exact KEY.out _ (hHeld.1.out.trans QB.out) | exact KEY.out _ (hHeld.1.out.trans QA.out) | exact KEY.out _ (Still.refl _).drew)) (fun hh => ?_)
  have hHeld := hh rfl
  clear hK K
  try simp only [Act.put, List.setIfInBounds_toArray, List.set_cons_zero, List.set_cons_succ]
  refine wpZ_one (i := 8) (oi := ⟨some 67, .call { callee := .value (.func 153), args := #[.tmp 59, .tmp 60, .tmp 63, .tmp 66], argTypes := #[237, 3, 26, 26] }, 160, _, _, none⟩) rfl (by kernel_rfl) (fun K hK => ?_)
  go_simp; refine (CC.out _).mono ?_; rintro e wC ⟨rfl, hq⟩; have tC := hq.cell hHeld.2; have QC := Lib.hid (hHeld.1.out.trans hq); clear hq hHeld; go_wp2_with fail
  refine hK.out _ _ (fun h => by simp at h) (fun _ => ?_)
  clear hK K
  try simp only [Act.put, List.setIfInBounds_toArray, List.set_cons_zero, List.set_cons_succ]
  refine wpZ_one (i := 9) (oi := ⟨some 58, .move (.tmp 67), 160, _, _, none⟩) rfl (by kernel_rfl) (fun K hK => ?_)
  go_simp
  refine hK.out _ _ (fun h => by simp at h) (fun _ => ?_)
  clear hK K
  try simp only [Act.put, List.setIfInBounds_toArray, List.set_cons_zero, List.set_cons_succ]
  refine wpZ_two (i := 10) (j := 11) (oi := ⟨some 68, .extract (.tmp 58) 0, 26, _, _, none⟩) (oj := ⟨some 69, .extract (.tmp 58) 1, 32, _, _, none⟩) rfl rfl (by kernel_rfl) (fun K hK => ?_) (fun K hK => ?_)
  ·
    go_simp
    refine hK.out _ _ (fun h => by simp at h) (fun _ => ?_)
    clear hK K
    try simp only [Act.put, List.setIfInBounds_toArray, List.set_cons_zero, List.set_cons_succ]
    refine wpZ_two (i := 11) (j := 12) (oi := ⟨some 69, .extract (.tmp 58) 1, 32, _, _, none⟩) (oj := ⟨some 6, .assign (.tmp 68), 26, _, _, none⟩) rfl rfl (by kernel_rfl) (fun K hK => ?_) (fun K hK => ?_)
    ·
      go_simp
      refine hK.out _ _ (fun h => by simp at h) (fun _ => ?_)
      clear hK K
      try simp only [Act.put, List.setIfInBounds_toArray, List.set_cons_zero, List.set_cons_succ]
      refine wpZ_one (i := 12) (oi := ⟨some 6, .assign (.tmp 68), 26, _, _, none⟩) rfl (by kernel_rfl) (fun K hK => ?_)
      go_simp
      refine hK.out _ _ (fun h => by simp at h) (fun _ => ?_)
      clear hK K
      try simp only [Act.put, List.setIfInBounds_toArray, List.set_cons_zero, List.set_cons_succ]
      refine wpZ_one (i := 13) (oi := ⟨some 7, .assign (.tmp 69), 32, _, _, none⟩) rfl (by kernel_rfl) (fun K hK => ?_)
      go_simp
      refine hK.out _ _ (fun h => by simp at h) (fun _ => ?_)
      clear hK K
      try simp only [Act.put, List.setIfInBounds_toArray, List.set_cons_zero, List.set_cons_succ]
      refine wpZ_done (by kernel_rfl) ?_ _
      go_wp2_with fail; refine (CD.out _).mono ?_; rintro e wD ⟨rfl, hq⟩; have QD := Lib.hid (Q.out.trans (QC.out.trans hq)); clear hq; go_wp2; exact bodyPost_ret (v := .tuple #[.int .u64 (lowI (IntKind.u64.wrap (lowI x - lowI y))), .int .i64 0]) (by simp [results, Tryz.results101, go_sem]) rfl ⟨rfl, QD.out⟩
    ·
      go_simp
      refine hK.out _ _ (fun h => by simp at h) (fun _ => ?_)
      clear hK K
      try simp only [Act.put, List.setIfInBounds_toArray, List.set_cons_zero, List.set_cons_succ]
      refine wpZ_one (i := 11) (oi := ⟨some 69, .extract (.tmp 58) 1, 32, _, _, none⟩) rfl (by kernel_rfl) (fun K hK => ?_)
      go_simp
      refine hK.out _ _ (fun h => by simp at h) (fun _ => ?_)
      clear hK K
      try simp only [Act.put, List.setIfInBounds_toArray, List.set_cons_zero, List.set_cons_succ]
      refine wpZ_one (i := 13) (oi := ⟨some 7, .assign (.tmp 69), 32, _, _, none⟩) rfl (by kernel_rfl) (fun K hK => ?_)
      go_simp
      refine hK.out _ _ (fun h => by simp at h) (fun _ => ?_)
      clear hK K
      try simp only [Act.put, List.setIfInBounds_toArray, List.set_cons_zero, List.set_cons_succ]
      refine wpZ_done (by kernel_rfl) ?_ _
      go_wp2_with fail; refine (CD.out _).mono ?_; rintro e wD ⟨rfl, hq⟩; have QD := Lib.hid (Q.out.trans (QC.out.trans hq)); clear hq; go_wp2; exact bodyPost_ret (v := .tuple #[.int .u64 (lowI (IntKind.u64.wrap (lowI x - lowI y))), .int .i64 0]) (by simp [results, Tryz.results101, go_sem]) rfl ⟨rfl, QD.out⟩
  ·
    go_simp
    refine hK.out _ _ (fun h => by simp at h) (fun _ => ?_)
    clear hK K
    try simp only [Act.put, List.setIfInBounds_toArray, List.set_cons_zero, List.set_cons_succ]
    refine wpZ_one (i := 10) (oi := ⟨some 68, .extract (.tmp 58) 0, 26, _, _, none⟩) rfl (by kernel_rfl) (fun K hK => ?_)
    go_simp
    refine hK.out _ _ (fun h => by simp at h) (fun _ => ?_)
    clear hK K
    try simp only [Act.put, List.setIfInBounds_toArray, List.set_cons_zero, List.set_cons_succ]
    refine wpZ_one (i := 12) (oi := ⟨some 6, .assign (.tmp 68), 26, _, _, none⟩) rfl (by kernel_rfl) (fun K hK => ?_)
    go_simp
    refine hK.out _ _ (fun h => by simp at h) (fun _ => ?_)
    clear hK K
    try simp only [Act.put, List.setIfInBounds_toArray, List.set_cons_zero, List.set_cons_succ]
    refine wpZ_one (i := 13) (oi := ⟨some 7, .assign (.tmp 69), 32, _, _, none⟩) rfl (by kernel_rfl) (fun K hK => ?_)
    go_simp
    refine hK.out _ _ (fun h => by simp at h) (fun _ => ?_)
    clear hK K
    try simp only [Act.put, List.setIfInBounds_toArray, List.set_cons_zero, List.set_cons_succ]
    refine wpZ_done (by kernel_rfl) ?_ _
    go_wp2_with fail; refine (CD.out _).mono ?_; rintro e wD ⟨rfl, hq⟩; have QD := Lib.hid (Q.out.trans (QC.out.trans hq)); clear hq; go_wp2; exact bodyPost_ret (v := .tuple #[.int .u64 (lowI (IntKind.u64.wrap (lowI x - lowI y))), .int .i64 0]) (by simp [results, Tryz.results101, go_sem]) rfl ⟨rfl, QD.out⟩
def fn69 : NumFn := ⟨1, fun v => if lowI v == 0 then 1 else 0, fun _ _ => (0, 0)⟩
def fn106 : NumFn := ⟨2, fun v => 0, fun x y => (lowI (IntKind.u64.wrap (lowI x + lowI y)), 0)⟩
def fn107 : NumFn := ⟨2, fun v => 0, fun x y => (lowI (IntKind.u64.wrap (lowI x - lowI y)), 0)⟩
theorem same_still {e : Ending} {w w' : World} {p : Prop} (h : p ∧ w' = w) : p ∧ Still w w' := ⟨h.1, h.2 ▸ Still.refl _⟩
theorem ok69 : NumOk 69 fn69 := ⟨by simp [fn69], fun w => (is_69 w).mono fun e w' h => same_still (e := e) h, fun _ w v _ => (one_69 w v).mono fun e w' h => ⟨⟨_, h.1⟩, h.2 ▸ Still.refl _⟩, fun h => by simp [fn69] at h⟩
theorem ok106 : NumOk 106 fn106 := ⟨by simp [fn106], fun w => (is_106 w).mono fun e w' h => same_still (e := e) h, fun h => by simp [fn106] at h, fun _ w a b h => two_106 w a b h.1 h.2⟩
theorem ok107 : NumOk 107 fn107 := ⟨by simp [fn107], fun w => (is_107 w).mono fun e w' h => same_still (e := e) h, fun h => by simp [fn107] at h, fun _ w a b h => two_107 w a b h.1 h.2⟩
def fn0 : NumFn := ⟨0, fun _ => 0, fun _ _ => (0, 0)⟩
theorem is_0 (w : World) : Calls Tryz.prog 99 #[.int .i64 0] w fun e w' => e = .returned (.int .i64 0) ∧ w' = w := by
  go_enter Tryz.func99, Tryz.ntmps99
  go_wp2
  exact bodyPost_ret (v := .int .i64 0) (by simp [results, Tryz.results99, go_sem]) rfl ⟨rfl, rfl⟩
theorem ok0 : NumOk 0 fn0 := ⟨by simp [fn0], fun w => (is_0 w).mono fun e w' h => same_still (e := e) h, fun h => by simp [fn0] at h, fun h => by simp [fn0] at h⟩
theorem is_1 (w : World) : Calls Tryz.prog 99 #[.int .i64 1] w fun e w' => e = .returned (.int .i64 0) ∧ w' = w := by
  go_enter Tryz.func99, Tryz.ntmps99
  go_wp2
  exact bodyPost_ret (v := .int .i64 0) (by simp [results, Tryz.results99, go_sem]) rfl ⟨rfl, rfl⟩
theorem ok1 : NumOk 1 fn0 := ⟨by simp [fn0], fun w => (is_1 w).mono fun e w' h => same_still (e := e) h, fun h => by simp [fn0] at h, fun h => by simp [fn0] at h⟩
theorem is_2 (w : World) : Calls Tryz.prog 99 #[.int .i64 2] w fun e w' => e = .returned (.int .i64 0) ∧ w' = w := by
  go_enter Tryz.func99, Tryz.ntmps99
  go_wp2
  exact bodyPost_ret (v := .int .i64 0) (by simp [results, Tryz.results99, go_sem]) rfl ⟨rfl, rfl⟩
theorem ok2 : NumOk 2 fn0 := ⟨by simp [fn0], fun w => (is_2 w).mono fun e w' h => same_still (e := e) h, fun h => by simp [fn0] at h, fun h => by simp [fn0] at h⟩
theorem is_3 (w : World) : Calls Tryz.prog 99 #[.int .i64 3] w fun e w' => e = .returned (.int .i64 0) ∧ w' = w := by
  go_enter Tryz.func99, Tryz.ntmps99
  go_wp2
  exact bodyPost_ret (v := .int .i64 0) (by simp [results, Tryz.results99, go_sem]) rfl ⟨rfl, rfl⟩
theorem ok3 : NumOk 3 fn0 := ⟨by simp [fn0], fun w => (is_3 w).mono fun e w' h => same_still (e := e) h, fun h => by simp [fn0] at h, fun h => by simp [fn0] at h⟩
theorem is_4 (w : World) : Calls Tryz.prog 99 #[.int .i64 4] w fun e w' => e = .returned (.int .i64 0) ∧ w' = w := by
  go_enter Tryz.func99, Tryz.ntmps99
  go_wp2
  exact bodyPost_ret (v := .int .i64 0) (by simp [results, Tryz.results99, go_sem]) rfl ⟨rfl, rfl⟩
theorem ok4 : NumOk 4 fn0 := ⟨by simp [fn0], fun w => (is_4 w).mono fun e w' h => same_still (e := e) h, fun h => by simp [fn0] at h, fun h => by simp [fn0] at h⟩
theorem is_5 (w : World) : Calls Tryz.prog 99 #[.int .i64 5] w fun e w' => e = .returned (.int .i64 0) ∧ w' = w := by
  go_enter Tryz.func99, Tryz.ntmps99
  go_wp2
  exact bodyPost_ret (v := .int .i64 0) (by simp [results, Tryz.results99, go_sem]) rfl ⟨rfl, rfl⟩
theorem ok5 : NumOk 5 fn0 := ⟨by simp [fn0], fun w => (is_5 w).mono fun e w' h => same_still (e := e) h, fun h => by simp [fn0] at h, fun h => by simp [fn0] at h⟩
theorem is_11 (w : World) : Calls Tryz.prog 99 #[.int .i64 11] w fun e w' => e = .returned (.int .i64 0) ∧ w' = w := by
  go_enter Tryz.func99, Tryz.ntmps99
  go_wp2
  exact bodyPost_ret (v := .int .i64 0) (by simp [results, Tryz.results99, go_sem]) rfl ⟨rfl, rfl⟩
theorem ok11 : NumOk 11 fn0 := ⟨by simp [fn0], fun w => (is_11 w).mono fun e w' h => same_still (e := e) h, fun h => by simp [fn0] at h, fun h => by simp [fn0] at h⟩
theorem is_12 (w : World) : Calls Tryz.prog 99 #[.int .i64 12] w fun e w' => e = .returned (.int .i64 0) ∧ w' = w := by
  go_enter Tryz.func99, Tryz.ntmps99
  go_wp2
  exact bodyPost_ret (v := .int .i64 0) (by simp [results, Tryz.results99, go_sem]) rfl ⟨rfl, rfl⟩
theorem ok12 : NumOk 12 fn0 := ⟨by simp [fn0], fun w => (is_12 w).mono fun e w' h => same_still (e := e) h, fun h => by simp [fn0] at h, fun h => by simp [fn0] at h⟩
theorem is_13 (w : World) : Calls Tryz.prog 99 #[.int .i64 13] w fun e w' => e = .returned (.int .i64 0) ∧ w' = w := by
  go_enter Tryz.func99, Tryz.ntmps99
  go_wp2
  exact bodyPost_ret (v := .int .i64 0) (by simp [results, Tryz.results99, go_sem]) rfl ⟨rfl, rfl⟩
theorem ok13 : NumOk 13 fn0 := ⟨by simp [fn0], fun w => (is_13 w).mono fun e w' h => same_still (e := e) h, fun h => by simp [fn0] at h, fun h => by simp [fn0] at h⟩
theorem is_14 (w : World) : Calls Tryz.prog 99 #[.int .i64 14] w fun e w' => e = .returned (.int .i64 0) ∧ w' = w := by
  go_enter Tryz.func99, Tryz.ntmps99
  go_wp2
  exact bodyPost_ret (v := .int .i64 0) (by simp [results, Tryz.results99, go_sem]) rfl ⟨rfl, rfl⟩
theorem ok14 : NumOk 14 fn0 := ⟨by simp [fn0], fun w => (is_14 w).mono fun e w' h => same_still (e := e) h, fun h => by simp [fn0] at h, fun h => by simp [fn0] at h⟩
theorem is_15 (w : World) : Calls Tryz.prog 99 #[.int .i64 15] w fun e w' => e = .returned (.int .i64 0) ∧ w' = w := by
  go_enter Tryz.func99, Tryz.ntmps99
  go_wp2
  exact bodyPost_ret (v := .int .i64 0) (by simp [results, Tryz.results99, go_sem]) rfl ⟨rfl, rfl⟩
theorem ok15 : NumOk 15 fn0 := ⟨by simp [fn0], fun w => (is_15 w).mono fun e w' h => same_still (e := e) h, fun h => by simp [fn0] at h, fun h => by simp [fn0] at h⟩
theorem is_16 (w : World) : Calls Tryz.prog 99 #[.int .i64 16] w fun e w' => e = .returned (.int .i64 0) ∧ w' = w := by
  go_enter Tryz.func99, Tryz.ntmps99
  go_wp2
  exact bodyPost_ret (v := .int .i64 0) (by simp [results, Tryz.results99, go_sem]) rfl ⟨rfl, rfl⟩
theorem ok16 : NumOk 16 fn0 := ⟨by simp [fn0], fun w => (is_16 w).mono fun e w' h => same_still (e := e) h, fun h => by simp [fn0] at h, fun h => by simp [fn0] at h⟩
theorem is_26 (w : World) : Calls Tryz.prog 99 #[.int .i64 26] w fun e w' => e = .returned (.int .i64 0) ∧ w' = w := by
  go_enter Tryz.func99, Tryz.ntmps99
  go_wp2
  exact bodyPost_ret (v := .int .i64 0) (by simp [results, Tryz.results99, go_sem]) rfl ⟨rfl, rfl⟩
theorem ok26 : NumOk 26 fn0 := ⟨by simp [fn0], fun w => (is_26 w).mono fun e w' h => same_still (e := e) h, fun h => by simp [fn0] at h, fun h => by simp [fn0] at h⟩
theorem is_32 (w : World) : Calls Tryz.prog 99 #[.int .i64 32] w fun e w' => e = .returned (.int .i64 0) ∧ w' = w := by
  go_enter Tryz.func99, Tryz.ntmps99
  go_wp2
  exact bodyPost_ret (v := .int .i64 0) (by simp [results, Tryz.results99, go_sem]) rfl ⟨rfl, rfl⟩
theorem ok32 : NumOk 32 fn0 := ⟨by simp [fn0], fun w => (is_32 w).mono fun e w' h => same_still (e := e) h, fun h => by simp [fn0] at h, fun h => by simp [fn0] at h⟩
theorem is_33 (w : World) : Calls Tryz.prog 99 #[.int .i64 33] w fun e w' => e = .returned (.int .i64 0) ∧ w' = w := by
  go_enter Tryz.func99, Tryz.ntmps99
  go_wp2
  exact bodyPost_ret (v := .int .i64 0) (by simp [results, Tryz.results99, go_sem]) rfl ⟨rfl, rfl⟩
theorem ok33 : NumOk 33 fn0 := ⟨by simp [fn0], fun w => (is_33 w).mono fun e w' h => same_still (e := e) h, fun h => by simp [fn0] at h, fun h => by simp [fn0] at h⟩
theorem is_34 (w : World) : Calls Tryz.prog 99 #[.int .i64 34] w fun e w' => e = .returned (.int .i64 0) ∧ w' = w := by
  go_enter Tryz.func99, Tryz.ntmps99
  go_wp2
  exact bodyPost_ret (v := .int .i64 0) (by simp [results, Tryz.results99, go_sem]) rfl ⟨rfl, rfl⟩
theorem ok34 : NumOk 34 fn0 := ⟨by simp [fn0], fun w => (is_34 w).mono fun e w' h => same_still (e := e) h, fun h => by simp [fn0] at h, fun h => by simp [fn0] at h⟩
theorem is_35 (w : World) : Calls Tryz.prog 99 #[.int .i64 35] w fun e w' => e = .returned (.int .i64 0) ∧ w' = w := by
  go_enter Tryz.func99, Tryz.ntmps99
  go_wp2
  exact bodyPost_ret (v := .int .i64 0) (by simp [results, Tryz.results99, go_sem]) rfl ⟨rfl, rfl⟩
theorem ok35 : NumOk 35 fn0 := ⟨by simp [fn0], fun w => (is_35 w).mono fun e w' h => same_still (e := e) h, fun h => by simp [fn0] at h, fun h => by simp [fn0] at h⟩
theorem is_36 (w : World) : Calls Tryz.prog 99 #[.int .i64 36] w fun e w' => e = .returned (.int .i64 0) ∧ w' = w := by
  go_enter Tryz.func99, Tryz.ntmps99
  go_wp2
  exact bodyPost_ret (v := .int .i64 0) (by simp [results, Tryz.results99, go_sem]) rfl ⟨rfl, rfl⟩
theorem ok36 : NumOk 36 fn0 := ⟨by simp [fn0], fun w => (is_36 w).mono fun e w' h => same_still (e := e) h, fun h => by simp [fn0] at h, fun h => by simp [fn0] at h⟩
theorem is_65 (w : World) : Calls Tryz.prog 99 #[.int .i64 65] w fun e w' => e = .returned (.int .i64 0) ∧ w' = w := by
  go_enter Tryz.func99, Tryz.ntmps99
  go_wp2
  exact bodyPost_ret (v := .int .i64 0) (by simp [results, Tryz.results99, go_sem]) rfl ⟨rfl, rfl⟩
theorem ok65 : NumOk 65 fn0 := ⟨by simp [fn0], fun w => (is_65 w).mono fun e w' h => same_still (e := e) h, fun h => by simp [fn0] at h, fun h => by simp [fn0] at h⟩
theorem is_66 (w : World) : Calls Tryz.prog 99 #[.int .i64 66] w fun e w' => e = .returned (.int .i64 0) ∧ w' = w := by
  go_enter Tryz.func99, Tryz.ntmps99
  go_wp2
  exact bodyPost_ret (v := .int .i64 0) (by simp [results, Tryz.results99, go_sem]) rfl ⟨rfl, rfl⟩
theorem ok66 : NumOk 66 fn0 := ⟨by simp [fn0], fun w => (is_66 w).mono fun e w' h => same_still (e := e) h, fun h => by simp [fn0] at h, fun h => by simp [fn0] at h⟩
theorem is_208 (w : World) : Calls Tryz.prog 99 #[.int .i64 208] w fun e w' => e = .returned (.int .i64 0) ∧ w' = w := by
  go_enter Tryz.func99, Tryz.ntmps99
  go_wp2
  exact bodyPost_ret (v := .int .i64 0) (by simp [results, Tryz.results99, go_sem]) rfl ⟨rfl, rfl⟩
theorem ok208 : NumOk 208 fn0 := ⟨by simp [fn0], fun w => (is_208 w).mono fun e w' h => same_still (e := e) h, fun h => by simp [fn0] at h, fun h => by simp [fn0] at h⟩
theorem is_210 (w : World) : Calls Tryz.prog 99 #[.int .i64 210] w fun e w' => e = .returned (.int .i64 0) ∧ w' = w := by
  go_enter Tryz.func99, Tryz.ntmps99
  go_wp2
  exact bodyPost_ret (v := .int .i64 0) (by simp [results, Tryz.results99, go_sem]) rfl ⟨rfl, rfl⟩
theorem ok210 : NumOk 210 fn0 := ⟨by simp [fn0], fun w => (is_210 w).mono fun e w' h => same_still (e := e) h, fun h => by simp [fn0] at h, fun h => by simp [fn0] at h⟩
/-- What num does with the instructions that the fixed module has. -/
def fnOf (op : Int) : NumFn := if op = 69 then fn69 else if op = 106 then fn106 else if op = 107 then fn107 else fn0
def fixedOps : List Int := [69, 106, 107, 0, 1, 2, 3, 4, 5, 11, 12, 13, 14, 15, 16, 26, 32, 33, 34, 35, 36, 65, 66, 208, 210]
theorem okOf (op : Int) (h : op ∈ fixedOps) : NumOk op (fnOf op) := by
  simp only [fixedOps, List.mem_cons, List.not_mem_nil, or_false] at h
  rcases h with rfl | rfl | rfl | rfl | rfl | rfl | rfl | rfl | rfl | rfl | rfl | rfl | rfl | rfl | rfl | rfl | rfl | rfl | rfl | rfl | rfl | rfl | rfl | rfl | rfl
  · exact ok69
  · exact ok106
  · exact ok107
  · exact ok0
  · exact ok1
  · exact ok2
  · exact ok3
  · exact ok4
  · exact ok5
  · exact ok11
  · exact ok12
  · exact ok13
  · exact ok14
  · exact ok15
  · exact ok16
  · exact ok26
  · exact ok32
  · exact ok33
  · exact ok34
  · exact ok35
  · exact ok36
  · exact ok65
  · exact ok66
  · exact ok208
  · exact ok210
end Go.Proofs.YtmnebeikafigjaaGreatDoor
/- The plain machine keeps what One asks for. -/
set_option linter.unusedVariables false
namespace Go.Proofs.YtmnebeikafigjaaGreatDoor
open Go.St
structure LbInv (l : Lb) : Prop where
  to : -1000000 < l.to ∧ l.to < 1000000
  ar : -4611686018427387904 < l.ar ∧ l.ar < 4611686018427387904
structure FrInv (M : Mo) (nb : Nat) (K : Nat) (f : Fr) : Prop where
  fn : 0 ≤ f.fn ∧ f.fn < 4294967296
  fun_ : ∃ t, functionM M nb f.fn = some t
  at_ : -1000000000 < f.at_ ∧ f.at_ < 1000000000
  ar : -4611686018427387904 < f.ar ∧ f.ar < 4611686018427387904
  lab : ∀ l ∈ f.lab, LbInv l
  ll : f.lab.length ≤ K
  loc : U64 f.loc
structure CInv (M : Mo) (nb : Nat) (K : Nat) (C : Cf) : Prop where
  st : C.st.length ≤ K
  u : U64 C.st
  len : C.frs.length ≤ 1000000
  frs : ∀ f ∈ C.frs, FrInv M nb K f
variable {M : Mo} {nb K : Nat} {C C1 : Cf} {f : Fr}
theorem FrInv.mono {K' : Nat} (h : FrInv M nb K f) (hK : K ≤ K') : FrInv M nb K' f := ⟨h.fn, h.fun_, h.at_, h.ar, h.lab, Nat.le_trans h.ll hK, h.loc⟩
theorem CInv.mono {K' : Nat} (h : CInv M nb K C) (hK : K ≤ K') : CInv M nb K' C := ⟨Nat.le_trans h.st hK, h.u, h.len, fun f hf => (h.frs f hf).mono hK⟩
theorem cinv_ends (e : Int) : CInv M nb K (endsC e) := ⟨by simp [endsC], fun x hx => by simp [endsC] at hx, by simp [endsC], fun f hf => by simp [endsC] at hf⟩
theorem cinv_pops {n : Int} {l : List Int} (h : CInv M nb K C) (hp : popsC C n = some (l, C1)) : CInv M nb K C1 ∧ U64 l ∧ C1.frs = C.frs := by
  obtain ⟨_, _, rfl, rfl⟩ := popsC_some hp
  exact ⟨⟨by simp only [List.length_take]; have := h.st; omega, fun x hx => h.u x (List.mem_of_mem_take hx), h.len, h.frs⟩, fun x hx => h.u x (List.mem_of_mem_drop hx), rfl⟩
theorem cinv_lands {n ht : Int} (h : CInv M nb K C) (hr : landsC C n ht = some C1) : CInv M nb K C1 ∧ C1.frs = C.frs := by
  unfold landsC at hr
  split at hr
  · cases hr
  · rename_i l C' hp
    obtain ⟨h1, hl, hf⟩ := cinv_pops h hp
    obtain ⟨hn0, hn1, el, eC⟩ := popsC_some hp
    split at hr
    · cases hr
    · injection hr with hr
      subst hr
      refine ⟨⟨?_, ?_, by rw [← hf] at *; exact h1.len, h1.frs⟩, hf⟩
      · simp only [List.length_append, List.length_take]
        rw [el, eC, List.length_drop]
        simp only [List.length_take]
        have := h.st
        omega
      · intro x hx
        rcases List.mem_append.1 hx with hx | hx
        · exact h1.u x (List.mem_of_mem_take hx)
        · exact hl x hx
theorem cinv_top (h : CInv M nb K C) (hf : FrInv M nb K f) : CInv M nb K (setTop C f) := by
  refine ⟨h.st, h.u, by simp only [setTop, List.length_set]; exact h.len, fun g hg => ?_⟩
  rcases List.mem_or_eq_of_mem_set hg with hg | rfl
  · exact h.frs g hg
  · exact hf
theorem cinv_leave (h : CInv M nb K C) : CInv M nb K (leaveC C f) := by
  unfold leaveC
  split
  · exact cinv_ends _
  · rename_i C' hr
    obtain ⟨h1, hf⟩ := cinv_lands h hr
    split
    · exact ⟨by simp, fun x hx => by simp at hx, by simp, fun g hg => by simp at hg⟩
    · rename_i x r hx
      refine ⟨h1.st, h1.u, ?_, fun g hg => h1.frs g (List.mem_of_mem_take (hx ▸ hg))⟩
      have := congrArg List.length hx
      simp only [List.length_take] at this
      simp only
      rw [← this]
      have := h1.len
      omega
theorem cinv_push {v : Int} (h : CInv M nb K C) (hv : 0 ≤ v ∧ v < 18446744073709551616) : CInv M nb (K + 1) (pushI C v) := by
  refine ⟨by simp only [pushI, List.length_append, List.length_singleton]; have := h.st; omega, fun x hx => ?_, h.len, fun f hf => (h.frs f hf).mono (Nat.le_succ _)⟩
  rcases List.mem_append.1 hx with hx | hx
  · exact h.u x hx
  · rw [List.mem_singleton.1 hx]; exact hv
theorem FrInv.cut (h : FrInv M nb K f) (m : Nat) : FrInv M nb K { f with lab := f.lab.take m } :=
  ⟨h.fn, h.fun_, h.at_, h.ar, fun l hl => h.lab l (List.mem_of_mem_take hl), by simp only [List.length_take]; have := h.ll; omega, h.loc⟩
theorem FrInv.goto (h : FrInv M nb K f) (a : Int) (ha : -1000000000 < a ∧ a < 1000000000) : FrInv M nb K { f with at_ := a } := ⟨h.fn, h.fun_, ha, h.ar, h.lab, h.ll, h.loc⟩
theorem cinv_branch {n : Int} (h : CInv M nb K C) (hf : FrInv M nb K f) : CInv M nb K (branchC M C f n) := by
  unfold branchC
  split
  · exact cinv_ends _
  split
  · exact cinv_leave h
  split
  · exact cinv_ends _
  rename_i l hl
  split
  · exact cinv_ends _
  rename_i C' hr
  obtain ⟨h1, _⟩ := cinv_lands h hr
  have := (hf.lab l (List.mem_of_getElem? hl)).to
  exact cinv_top h1 ((hf.goto (l.to + 1) (by omega)).cut _)
theorem cinv_close (h : CInv M nb K C) (hf : FrInv M nb K f) : CInv M nb K (closeC C f) := by
  unfold closeC
  split
  · exact cinv_ends _
  split
  · exact cinv_leave h
  exact cinv_top h (hf.cut _)
theorem cinv_skip (h : CInv M nb K C) (hf : FrInv M nb K f) : CInv M nb K (skipC C f) := by
  unfold skipC
  split
  · exact cinv_ends _
  rename_i l hl
  split
  · exact cinv_ends _
  have := (hf.lab l (List.mem_of_getElem? hl)).to
  exact cinv_top h ((hf.goto (l.to + 1) (by omega)).cut _)
theorem argsOf_u {ps args : List Int} (h : U64 args) : U64 (argsOf ps args) := by
  intro x hx
  unfold argsOf at hx
  obtain ⟨i, hi⟩ := List.mem_iff_getElem?.1 hx
  rw [List.getElem?_zipWith] at hi
  split at hi
  · rename_i p a hp ha
    injection hi with hi
    have := h a (List.mem_of_getElem? ha)
    rw [← hi]
    split
    · exact low_range a
    · exact this
  · cases hi
theorem cinv_open {fn : Nat} {args : List Int} (hw : Wf M) (h : CInv M nb K C) (hfn : fn < 4294967296) (ha : U64 args) (hK : 1 ≤ K) : CInv M nb K (openC M nb C fn args) := by
  unfold openC
  split
  · exact cinv_ends _
  rename_i hlim
  split
  · rename_i t c ht hc
    split
    · exact cinv_ends _
    refine ⟨h.st, h.u, by simp only [List.length_append, List.length_singleton]; omega, fun g hg => ?_⟩
    rcases List.mem_append.1 hg with hg | hg
    · exact h.frs g hg
    · rw [List.mem_singleton.1 hg]
      obtain ⟨x, _, hx2, _⟩ := functionM_some ht
      have hrs := (hw.ps t (List.mem_of_getElem? hx2)).2.2
      have hb := (hw.body c (List.mem_of_getElem? hc)).1
      refine ⟨⟨by simp, by simp; omega⟩, ⟨t, ht⟩, by simp, by simp; omega, fun l hl => ?_, by simp; omega, fun y hy => ?_⟩
      · rw [List.mem_singleton.1 hl]
        exact ⟨by simp; omega, by simp; omega⟩
      · rcases List.mem_append.1 hy with hy | hy
        · exact argsOf_u ha y hy
        · rw [List.eq_of_mem_replicate hy]; omega
  · exact cinv_ends _
theorem cinv_call {fn : Nat} (hw : Wf M) (h : CInv M nb K C) (hfn : fn < 4294967296) (hK : 1 ≤ K) : CInv M nb K (callC M nb C fn) := by
  unfold callC
  split
  · exact cinv_ends _
  split
  · exact cinv_ends _
  rename_i l C' hp
  obtain ⟨h1, hl, _⟩ := cinv_pops h hp
  exact cinv_open hw h1 hfn hl hK
theorem FrInv.ok (h : FrInv M nb K f) (hK : K ≤ 1000000000) : FrOk f := ⟨h.fn, h.at_, h.ar, Nat.le_trans h.ll hK, fun l hl => ⟨by have := (h.lab l hl).to; omega, (h.lab l hl).ar⟩⟩
structure BkInv (bl : List (Int → Option (Int × Int))) : Prop where
  b : ∀ bf ∈ bl, ∀ a e, bf a = some e → (-1000000 < e.1 ∧ e.1 < 999999) ∧ (-1000000 < e.2 ∧ e.2 < 999999)
theorem signM_r {t : Int} {p r : Nat} (hw : Wf M) (h : signM M t = some (p, r)) : p ≤ 1000 ∧ r ≤ 1000 := by
  unfold signM at h
  split at h
  · cases h; omega
  split at h
  · cases h; omega
  split at h
  · cases h
  · rename_i x hx
    cases h
    exact (hw.ps x (List.mem_of_getElem? hx)).2
theorem cinv_enter2 {x : Ins} {at_ en : Int} {p r : Nat} (h : CInv M nb K C) (hf : FrInv M nb K f) (ha : 0 ≤ at_ ∧ at_ < 1000000) (he : -1000000 < en ∧ en < 1000000) (hp : p ≤ 1000 ∧ r ≤ 1000) : CInv M nb (K + 1) (enter2 C f x at_ en p r) := by
  unfold enter2
  refine cinv_top (h.mono (Nat.le_succ _)) ⟨hf.fn, hf.fun_, hf.at_, hf.ar, fun l hl => ?_, by simp only [List.length_append, List.length_singleton]; have := hf.ll; omega, hf.loc⟩
  rcases List.mem_append.1 hl with hl | hl
  · exact hf.lab l hl
  · rw [List.mem_singleton.1 hl]
    split
    · exact ⟨by simp; omega, by simp; omega⟩
    · exact ⟨by simp; omega, by simp; omega⟩
theorem cinv_enter {x : Ins} {at_ : Int} {bl : List (Int → Option (Int × Int))} {bf : Int → Option (Int × Int)} (hw : Wf M) (hB : BkInv bl) (hbf : bf ∈ bl) (h : CInv M nb K C) (hf : FrInv M nb K f) (ha : 0 ≤ at_ ∧ at_ < 1000000) : CInv M nb (K + 1) (enterC M bf C f x at_) := by
  unfold enterC
  split
  · rename_i el en p r he hs
    have hb := hB.b bf hbf at_ _ he
    have hp := signM_r hw hs
    split
    · split
      · exact cinv_ends _
      · rename_i l C' hpp
        obtain ⟨h1, _, _⟩ := cinv_pops h hpp
        split
        · split
          · exact (cinv_top h1 (hf.goto (en + 1) (by have := hb.2; simp only at this; omega))).mono (Nat.le_succ _)
          · have hf2 := hf.goto (el + 1) (by have := hb.1; simp only at this; omega)
            exact cinv_enter2 (cinv_top h1 hf2) hf2 ha (by have := hb.2; simp only at this; omega) hp
        · exact cinv_enter2 h1 hf ha (by have := hb.2; simp only at this; omega) hp
    · exact cinv_enter2 h hf ha (by have := hb.2; simp only at this; omega) hp
  · exact cinv_ends _
theorem cinv_control {I : In} {x : Ins} {at_ : Int} {r : Cf} (hw : Wf M) (hB : BkInv I.blocks) (hnb : I.blocks.length = nb) (h : CInv M nb K C) (hf : FrInv M nb K f) (hx : Ins.wf x) (ha : 0 ≤ at_ ∧ at_ < 1000000) (hK : 1 ≤ K) (hr : controlC M I C f x at_ = some r) : CInv M nb (K + 1) r := by
  have up : ∀ {c : Cf}, CInv M nb K c → CInv M nb (K + 1) c := fun hc => hc.mono (Nat.le_succ _)
  unfold controlC at hr
  split at hr
  · injection hr with hr; rw [← hr]; exact cinv_ends _
  split at hr
  · injection hr with hr; rw [← hr]; exact up h
  split at hr
  · injection hr with hr
    rw [← hr]
    obtain ⟨t, ht⟩ := hf.fun_
    have hfn : f.fn = ((f.fn.toNat : Nat) : Int) := by have := hf.fn; omega
    rw [hfn] at ht
    obtain ⟨_, _, _, _, h4⟩ := functionM_some ht
    have hb : I.blocks[f.fn.toNat]? = some (I.blocks[f.fn.toNat]'(by omega)) := List.getElem?_eq_getElem _
    rw [blkAt_eq hb]
    exact cinv_enter hw hB (List.getElem_mem _) h hf ha
  split at hr
  · injection hr with hr; rw [← hr]; exact up (cinv_skip h hf)
  split at hr
  · injection hr with hr; rw [← hr]; exact up (cinv_close h hf)
  split at hr
  · injection hr with hr; rw [← hr]; exact up (cinv_branch h hf)
  split at hr
  · injection hr with hr
    rw [← hr]
    split
    · exact cinv_ends _
    · rename_i l C' hpp
      obtain ⟨h1, _, _⟩ := cinv_pops h hpp
      split
      · exact up h1
      · exact up (cinv_branch h1 hf)
  split at hr
  · injection hr with hr
    rw [← hr]
    split
    · exact cinv_ends _
    · rename_i l C' hpp
      obtain ⟨h1, _, _⟩ := cinv_pops h hpp
      exact up (cinv_branch h1 hf)
  split at hr
  · injection hr with hr; rw [← hr]; exact up (cinv_leave h)
  split at hr
  · injection hr with hr
    rw [← hr, hnb]
    obtain ⟨n, hn⟩ := Int.eq_ofNat_of_zero_le hx.a.1
    rw [hn]
    exact up (cinv_call hw h (by have := hx.a.2; omega) hK)
  · cases hr
theorem u64_set {l : List Int} (h : U64 l) (a : Nat) {v : Int} (hv : 0 ≤ v ∧ v < 18446744073709551616) : U64 (l.set a v) := by
  intro x hx
  rcases List.mem_or_eq_of_mem_set hx with hx | rfl
  · exact h x hx
  · exact hv
theorem u64_head {l : List Int} (h : U64 l) : 0 ≤ l.headD 0 ∧ l.headD 0 < 18446744073709551616 := by
  cases l with
  | nil => simp
  | cons a r => exact h a (List.mem_cons_self ..)
theorem cinv_get {l : List Int} {a : Int} (hl : U64 l) (h : CInv M nb K C) : CInv M nb (K + 1) (getL l a C) := by
  unfold getL
  split
  · exact cinv_ends _
  · rename_i v hv
    exact cinv_push h (hl v (List.mem_of_getElem? hv))
theorem cinv_places {I I1 : In} {x : Ins} {r : Cf} (hg : U64 I.glo) (h : CInv M nb K C) (hf : FrInv M nb K f) (hx : Ins.wf x) (hr : placesC I C f x = some (r, I1)) : CInv M nb (K + 1) r ∧ U64 I1.glo ∧ I1.blocks = I.blocks := by
  have up : ∀ {c : Cf}, CInv M nb K c → CInv M nb (K + 1) c := fun hc => hc.mono (Nat.le_succ _)
  unfold placesC at hr
  split at hr
  · obtain ⟨rfl, rfl⟩ := Prod.mk.inj (Option.some.inj hr)
    refine ⟨?_, hg, rfl⟩
    split
    · exact cinv_ends _
    · rename_i l C' hpp
      exact up (cinv_pops h hpp).1
  split at hr
  · obtain ⟨rfl, rfl⟩ := Prod.mk.inj (Option.some.inj hr)
    exact ⟨cinv_get hf.loc h, hg, rfl⟩
  split at hr
  · obtain ⟨rfl, rfl⟩ := Prod.mk.inj (Option.some.inj hr)
    refine ⟨?_, hg, rfl⟩
    split
    · exact cinv_ends _
    · rename_i l C' hpp
      obtain ⟨h1, hl, _⟩ := cinv_pops h hpp
      split
      · have h2 : CInv M nb K (setTop C' { f with loc := f.loc.set x.a.toNat (l.headD 0) }) := cinv_top h1 ⟨hf.fn, hf.fun_, hf.at_, hf.ar, hf.lab, hf.ll, u64_set hf.loc _ (u64_head hl)⟩
        simp only
        split
        · exact cinv_push h2 (u64_head hl)
        · exact up h2
      · exact cinv_ends _
  split at hr
  · obtain ⟨rfl, rfl⟩ := Prod.mk.inj (Option.some.inj hr)
    exact ⟨cinv_get hg h, hg, rfl⟩
  split at hr
  · have hr := Option.some.inj hr
    split at hr
    · obtain ⟨rfl, rfl⟩ := Prod.mk.inj hr
      exact ⟨cinv_ends _, hg, rfl⟩
    · rename_i l C' hpp
      obtain ⟨h1, hl, _⟩ := cinv_pops h hpp
      split at hr
      · obtain ⟨rfl, rfl⟩ := Prod.mk.inj hr
        exact ⟨up h1, u64_set hg _ (u64_head hl), rfl⟩
      · obtain ⟨rfl, rfl⟩ := Prod.mk.inj hr
        exact ⟨cinv_ends _, hg, rfl⟩
  split at hr
  · obtain ⟨rfl, rfl⟩ := Prod.mk.inj (Option.some.inj hr)
    exact ⟨cinv_push h hx.n, hg, rfl⟩
  split at hr
  · obtain ⟨rfl, rfl⟩ := Prod.mk.inj (Option.some.inj hr)
    exact ⟨cinv_push h (by omega), hg, rfl⟩
  split at hr
  · obtain ⟨rfl, rfl⟩ := Prod.mk.inj (Option.some.inj hr)
    refine ⟨?_, hg, rfl⟩
    split
    · exact cinv_ends _
    · rename_i l C' hpp
      exact cinv_push (cinv_pops h hpp).1 (by split <;> omega)
  split at hr
  · obtain ⟨rfl, rfl⟩ := Prod.mk.inj (Option.some.inj hr)
    exact ⟨cinv_push h (by have := hx.a; omega), hg, rfl⟩
  · cases hr
/-- What num gives fits. -/
structure NumU (F : NumFn) : Prop where
  one : ∀ v, 0 ≤ F.one v ∧ F.one v < 18446744073709551616
  two : ∀ a b, 0 ≤ (F.two a b).1 ∧ (F.two a b).1 < 18446744073709551616
theorem cinv_numbers {F : NumFn} (hF : NumU F) (h : CInv M nb K C) : CInv M nb (K + 1) (numbersC F C) := by
  unfold numbersC
  split
  · exact cinv_ends _
  split
  · exact cinv_ends _
  rename_i l C' hpp
  obtain ⟨h1, hl, _⟩ := cinv_pops h hpp
  split
  · exact cinv_push h1 (hF.one _)
  split
  · exact cinv_push h1 (hF.two _ _)
  · exact cinv_ends _
theorem cinv_one {I : In} {x : Ins} {F : NumFn} (hw : Wf M) (hB : BkInv I.blocks) (hnb : I.blocks.length = nb) (hg : U64 I.glo) (h : CInv M nb K C) (hf : FrInv M nb K f) (hx : Ins.wf x) (ha : 0 ≤ f.at_ ∧ f.at_ < 999999) (hK : 1 ≤ K) (hF : NumU F) :
    CInv M nb (K + 1) (oneC M I C f x F).1 ∧ U64 (oneC M I C f x F).2.glo ∧ (oneC M I C f x F).2.blocks = I.blocks := by
  have hf2 := hf.goto (f.at_ + 1) (by omega)
  have h2 : CInv M nb K (setTop C { f with at_ := f.at_ + 1 }) := cinv_top h hf2
  have key : CInv M nb (K + 1) (doC M I (setTop C { f with at_ := f.at_ + 1 }) { f with at_ := f.at_ + 1 } x f.at_ F).1 ∧ U64 (doC M I (setTop C { f with at_ := f.at_ + 1 }) { f with at_ := f.at_ + 1 } x f.at_ F).2.glo ∧ (doC M I (setTop C { f with at_ := f.at_ + 1 }) { f with at_ := f.at_ + 1 } x f.at_ F).2.blocks = I.blocks := by
    unfold doC
    split
    · rename_i r hr
      exact ⟨cinv_control hw hB hnb h2 hf2 hx (by omega) hK hr, hg, rfl⟩
    · split
      · rename_i r hr
        obtain ⟨r1, r2⟩ := r
        exact cinv_places hg h2 hf2 hx hr
      · exact ⟨cinv_numbers hF h2, hg, rfl⟩
  unfold oneC
  simp only
  split
  · exact ⟨cinv_ends _, key.2⟩
  · exact key
/-- A step of the plain machine, its bounds kept. -/
theorem stepOk_of {c : Cf × In} {k : Nat} {cd : Cd} {a : Nat} {x : Ins} {F : NumFn} (hw : Wf M) (hB : BkInv c.2.blocks) (hnb : c.2.blocks.length = nb) (hg : U64 c.2.glo) (h : CInv M nb K c.1) (hK : 1 ≤ K) (hK2 : K ≤ 800000000) (hov : c.1.ov = false)
    (hlen : c.1.frs.length = k + 1) (htop : c.1.frs[k]? = some f) (hcd : M.codes[f.fn.toNat]? = some cd) (ha : f.at_ = a) (hx : cd.body[a]? = some x) (hp : Plain x.op) (hF : NumOk x.op F) (hU : NumU F) :
    StepOk M c (oneC M c.2 c.1 f x F) ∧ CInv M nb (K + 1) (oneC M c.2 c.1 f x F).1 ∧ U64 (oneC M c.2 c.1 f x F).2.glo ∧ (oneC M c.2 c.1 f x F).2.blocks = c.2.blocks := by
  have hf := h.frs f (List.mem_of_getElem? htop)
  have hcw := hw.body cd (List.mem_of_getElem? hcd)
  have hal := (List.getElem?_eq_some_iff.1 hx).1
  obtain ⟨t, ht⟩ := hf.fun_
  have ht' := ht
  have hfn : f.fn = ((f.fn.toNat : Nat) : Int) := by have := hf.fn; omega
  rw [hfn] at ht'
  obtain ⟨_, _, _, _, h4⟩ := functionM_some ht'
  have hb : c.2.blocks[f.fn.toNat]? = some (c.2.blocks[f.fn.toNat]'(by omega)) := List.getElem?_eq_getElem _
  refine ⟨⟨k, f, cd, t, a, x, F, hov, ⟨hlen, by have := h.len; omega, hf.ok (by omega), by have := h.st; omega, h.u, ⟨cd, hcd⟩, ⟨_, hb, fun a e he => ?_⟩⟩, htop, by have := h.st; omega, hcd, by rw [hnb]; exact ht, ha, hx, hp, hF, rfl⟩, cinv_one hw hB hnb hg h hf (hcw.2.2 x (List.mem_of_getElem? hx)) (by have := hcw.1; omega) hK hU⟩
  have := hB.b _ (List.getElem_mem (by omega)) a e he
  omega
end Go.Proofs.YtmnebeikafigjaaGreatDoor
/- Runs of the plain machine. -/
set_option linter.unusedVariables false
namespace Go.Proofs.YtmnebeikafigjaaGreatDoor
open Go.St
variable {M : Mo}
theorem numU_of (op : Int) : NumU (fnOf op) := by
  unfold fnOf
  split
  · exact ⟨fun v => by simp only [fn69]; split <;> omega, fun a b => by simp [fn69]⟩
  split
  · exact ⟨fun v => by simp [fn106], fun a b => low_range _⟩
  split
  · exact ⟨fun v => by simp [fn107], fun a b => low_range _⟩
  · exact ⟨fun v => by simp [fn0], fun a b => by simp [fn0]⟩
theorem plain_of {op : Int} (h : op ∈ fixedOps) : Plain op := by
  simp only [fixedOps, List.mem_cons, List.not_mem_nil, or_false] at h
  exact ⟨by omega, by omega, by omega, by omega, by omega⟩
/-- A step, of the instructions that the fixed module has. -/
def nextC (M : Mo) (c : Cf × In) : Option (Cf × In) := if c.1.ov = true then none else match c.1.frs[c.1.frs.length - 1]? with
  | none => none
  | some f => if f.at_ < 0 then none else match M.codes[f.fn.toNat]? with
    | none => none
    | some cd => match cd.body[f.at_.toNat]? with
      | none => none
      | some x => if x.op ∈ fixedOps then some (oneC M c.2 c.1 f x (fnOf x.op)) else none
structure Good (M : Mo) (nb K : Nat) (c : Cf × In) : Prop where
  bk : BkInv c.2.blocks
  len : c.2.blocks.length = nb
  glo : U64 c.2.glo
  c : CInv M nb K c.1
theorem next_ok {nb K : Nat} {c c' : Cf × In} (hw : Wf M) (h : Good M nb K c) (hK : 1 ≤ K) (hK2 : K ≤ 800000000) (hn : nextC M c = some c') : StepOk M c c' ∧ Good M nb (K + 1) c' := by
  unfold nextC at hn
  split at hn
  · cases hn
  rename_i hov
  split at hn
  · cases hn
  rename_i f hf
  split at hn
  · cases hn
  rename_i hat
  split at hn
  · cases hn
  rename_i cd hcd
  split at hn
  · cases hn
  rename_i x hx
  split at hn
  · rename_i hop
    injection hn with hn
    have hlen : c.1.frs.length = (c.1.frs.length - 1) + 1 := by have := (List.getElem?_eq_some_iff.1 hf).1; omega
    obtain ⟨h1, h2, h3, h4⟩ := stepOk_of (a := f.at_.toNat) hw h.bk h.len h.glo h.c hK hK2 (by simpa using hov) hlen hf hcd (by omega) hx (plain_of hop) (okOf _ hop) (numU_of _)
    rw [hn] at h1 h2 h3 h4
    exact ⟨h1, by rw [h4]; exact h.bk, by rw [h4]; exact h.len, h3, h2⟩
  · cases hn
def runsC (M : Mo) : Nat → Cf × In → Option (Cf × In)
  | 0, c => some c
  | n + 1, c => match nextC M c with
    | none => none
    | some c' => runsC M n c'
theorem runs_add {n m : Nat} : ∀ {c c' c'' : Cf × In}, runsC M n c = some c' → runsC M m c' = some c'' → runsC M (n + m) c = some c'' := by
  induction n with
  | zero =>
    intro c c' c'' h1 h2
    simp only [runsC, Option.some.injEq] at h1
    rw [Nat.zero_add, h1]
    exact h2
  | succ n ih =>
    intro c c' c'' h1 h2
    rw [Nat.succ_add]
    simp only [runsC] at h1 ⊢
    split at h1
    · cases h1
    · exact ih h1 h2
/-- A run is a sequence of steps. -/
theorem runs_st {nb : Nat} (hw : Wf M) : ∀ {n K : Nat} {c c' : Cf × In}, Good M nb K c → 1 ≤ K → K + n ≤ 800000000 → runsC M n c = some c' → ∃ st : Nat → Cf × In, st 0 = c ∧ st n = c' ∧ ∀ k, k < n → StepOk M (st k) (st (k + 1))
  | 0, K, c, c', h, hK, hK2, hr => by
    simp only [runsC, Option.some.injEq] at hr
    exact ⟨fun _ => c, rfl, hr, fun k hk => by omega⟩
  | n + 1, K, c, c', h, hK, hK2, hr => by
    simp only [runsC] at hr
    split at hr
    · cases hr
    · rename_i c1 h1
      obtain ⟨hs, hg⟩ := next_ok hw h hK (by omega) h1
      obtain ⟨st, e0, en, hst⟩ := runs_st hw hg (by omega) (by omega) hr
      refine ⟨fun k => match k with
        | 0 => c
        | k + 1 => st k, rfl, en, fun k hk => ?_⟩
      cases k with
      | zero => show StepOk M c (st 0); rw [e0]; exact hs
      | succ k => exact hst k (by omega)
end Go.Proofs.YtmnebeikafigjaaGreatDoor
/- The fixed module's functions, run. -/
set_option linter.unusedVariables false
namespace Go.Proofs.YtmnebeikafigjaaGreatDoor
open Go.St
def ins (op : Int) (a : Int := 0) (n : Int := 0) (t : Int := 0) : Ins := ⟨op, a, 0, n, [], t⟩
/-- From a place on, where else and end are at this depth. -/
def seek : List Ins → Int → Nat → Int → Int × Int
  | [], i, d, el => (el, i)
  | x :: r, i, d, el => if x.op = 2 ∨ x.op = 3 ∨ x.op = 4 then seek r (i + 1) (d + 1) el else if x.op = 11 then (match d with
      | 0 => (el, i)
      | d + 1 => seek r (i + 1) d el)
    else if x.op = 5 ∧ d = 0 then seek r (i + 1) d i else seek r (i + 1) d el
def blocksOf (l : List Ins) (a : Int) : Option (Int × Int) := if a < 0 then none else match l[a.toNat]? with
  | none => none
  | some x => if x.op = 2 ∨ x.op = 3 ∨ x.op = 4 then some (seek (l.drop (a.toNat + 1)) (a + 1) 0 (-1)) else none
def fixedBodies : List (List Ins) := [
  [ins 35, ins 32, ins 106, ins 36, ins 35, ins 11],
  [ins 35, ins 11],
  [ins 65 0 99, ins 36, ins 3 0 0 (-64), ins 12, ins 11, ins 11],
  [ins 35, ins 65 0 1000, ins 106, ins 36, ins 0, ins 11],
  [ins 32, ins 32 1, ins 58, ins 11],
  [ins 32, ins 45, ins 11],
  [ins 2 0 0 (-64), ins 3 0 0 (-64), ins 32, ins 69, ins 13 1, ins 32, ins 65 0 1, ins 107, ins 33, ins 35, ins 65 0 1, ins 106, ins 36, ins 12, ins 11, ins 11, ins 35, ins 11],
  [ins 65 0 5, ins 36, ins 16 7, ins 11]]
def fixedM (fs : List Int) (bs : List (List Ins)) : Mo :=
  { types := [⟨[], []⟩, ⟨[127], [127]⟩, ⟨[], [127]⟩, ⟨[127, 127], []⟩], funcs := [1, 2, 0, 0, 3, 1, 1, 0] ++ fs, tabs := [], mems := [⟨1, 0, false⟩], globs := [[ins 65, ins 11]], elems := [], codes := (fixedBodies ++ bs).map fun b => ⟨[], b⟩, datas := [] }
@[irreducible] def memX : List Int := List.replicate 65536 0
def fixedI (bs : List (List Ins)) (g : Int) : In := { blocks := (fixedBodies ++ bs).map blocksOf, mem := memX, tabs := [], glo := [g], els := [], das := [] }
def look (n : Nat) (f : Nat) (l : List Int) := (runsC (fixedM [] []) n (openC (fixedM [] []) 8 cf0 f l, fixedI [] 0)).map (fun c => (c.1.ov, c.1.er, c.1.va, c.2.glo, c.1.st, c.1.frs.map (fun f => (f.fn, f.at_, f.lab.map (fun l => (l.to, l.ar, l.ht)), f.loc))))
set_option maxRecDepth 100000 in
theorem run6_3 : (look 43 6 [3]) = some (true, 0, [3], [3], [], []) := by kernel_rfl
set_option maxRecDepth 100000 in
theorem run6_100 : (look 1207 6 [100]) = some (true, 0, [100], [100], [], []) := by kernel_rfl
end Go.Proofs.YtmnebeikafigjaaGreatDoor
/- A map of blocks: what is in it, as a list. -/
set_option linter.unusedVariables false
set_option linter.unusedSimpArgs false
namespace Go.Proofs.YtmnebeikafigjaaGreatDoor
open Go.RowKit Go.Sep Go.St
abbrev DU := DataW Unit
def rdL : List Value → Option (DU × List MemPlace)
  | [.int .i64 a, .int .i64 b] => some (.agg [.lit (.int .i64 a), .lit (.int .i64 b)], [])
  | _ => none
def rdB : Value → Option (DU × List MemPlace)
  | .agg xs => rdL xs.toList
  | _ => none
theorem rdB_mk (p : Int × Int) : rdB (.agg #[.int .i64 p.1, .int .i64 p.2]) = some (.agg [.lit (.int .i64 p.1), .lit (.int .i64 p.2)], []) := rfl
theorem rdB_inv {v : Value} {a b : Int} {ps : List MemPlace} (h : rdB v = some (.agg [.lit (.int .i64 a), .lit (.int .i64 b)], ps)) : v = .agg #[.int .i64 a, .int .i64 b] := by
  cases v <;> simp only [rdB] at h <;> try cases h
  rename_i xs
  unfold rdL at h
  split at h
  · rename_i x y e
    injection h with h
    injection h with h1 h2
    injection h1 with h1
    injection h1 with h3 h4
    injection h3 with h3
    injection h3 with h3 h5
    injection h4 with h4
    injection h4 with h4
    injection h4 with h4 h6
    subst h5 h6
    exact congrArg Value.agg (Array.toList_inj.1 e)
  · cases h
abbrev Es := List (Int × (Int × Int))
def getE (es : Es) (k : Int) : Option (Int × Int) := match es with
  | [] => none
  | (a, v) :: r => if a = k then some v else getE r k
def setE (es : Es) (k : Int) (v : Int × Int) : Es := match es with
  | [] => [(k, v)]
  | (a, x) :: r => if a = k then (a, v) :: r else (a, x) :: setE r k v
theorem getE_set (k : Int) (v : Int × Int) : ∀ (es : Es) (q : Int), getE (setE es k v) q = if q = k then some v else getE es q
  | [], q => by
    simp only [setE, getE]
    by_cases h : q = k
    · subst h; simp
    · rw [if_neg (fun e => h e.symm), if_neg h]
  | (a, x) :: r, q => by
    simp only [setE]
    by_cases ha : a = k
    · subst ha
      rw [if_pos rfl]
      simp only [getE]
      by_cases h : a = q
      · subst h; simp
      · rw [if_neg h, if_neg h, if_neg (fun e => h e.symm)]
    · rw [if_neg ha]
      simp only [getE]
      by_cases h : a = q
      · subst h; simp [ha]
      · rw [if_neg h, getE_set k v r q, if_neg h]
theorem set_len (k : Int) (v : Int × Int) : ∀ es : Es, (setE es k v).length = if (getE es k).isSome then es.length else es.length + 1
  | [] => by simp [setE, getE]
  | (a, x) :: r => by
    simp only [setE, getE]
    by_cases ha : a = k
    · simp [ha]
    · simp only [ha, if_false, List.length_cons, set_len k v r]
      split <;> rfl
def I64 (k : Int) : Prop := -9223372036854775808 ≤ k ∧ k ≤ 9223372036854775807
def zB : DU := .agg [.lit (.int .i64 0), .lit (.int .i64 0)]
def enB (p : Int × Int) : DU := .agg [.lit (.int .i64 p.1), .lit (.int .i64 p.2)]
/-- Block r is a map that holds es. -/
def MapF (w : World) (r : Nat) (es : Es) : Prop := ∃ D : DU, w.ownsMap Tryz.prog 3 rdB r es.length D ∧ Maps.Tidy D ∧ Maps.size D = es.length ∧ ∀ k, I64 k → Maps.has D (.int .i64 k) = (getE es k).isSome ∧ D.atKey (.int .i64 k) zB = enB ((getE es k).getD (0, 0))
theorem kInt : Maps.Keyed Tryz.prog 3 := Maps.int_keyed Tryz.underlying3
theorem wfI {k : Int} (h : I64 k) : (Lit.int .i64 k).wf = true := by
  have h1 := h.1
  have h2 := h.2
  have m : IntKind.min .i64 = -9223372036854775808 := by decide
  have x : IntKind.max .i64 = 9223372036854775807 := by decide
  simp [Lit.wf, m, x, h1, h2]
theorem keyI {k : Int} (h : I64 k) : keyOf Tryz.prog 3 (.int .i64 k) = some (.int .i64 k) := Maps.keyOf_int_mk Tryz.underlying3 (wfI h)
theorem zeroB (w : World) : (zeroValue 205).run Tryz.prog w = .ok (.agg #[.int .i64 0, .int .i64 0]) w := by kernel_rfl
theorem MapF.made (w : World) : MapF (w.alloc (.map #[] 0)) w.heap.size [] := ⟨.map [], w.ownsMap_made _ _ _, Maps.tidy_empty, rfl, fun k _ => ⟨rfl, rfl⟩⟩
theorem MapF.move {w w' : World} {r : Nat} {es : Es} (h : MapF w r es) (hm : w'.heap[r]? = w.heap[r]?) : MapF w' r es := by
  obtain ⟨D, ⟨e, c, h1, h2, h3, h4⟩, hT, hs, hg⟩ := h
  exact ⟨D, ⟨e, c, by rw [hm]; exact h1, h2, h3, h4⟩, hT, hs, hg⟩
theorem MapF.lt {w : World} {r : Nat} {es : Es} (h : MapF w r es) : r < w.heap.size := by
  obtain ⟨D, h, _⟩ := h
  exact h.lt
theorem owns_tight {w : World} {r n : Nat} {D : DU} (h : w.ownsMap Tryz.prog 3 rdB r n D) : w.ownsMap Tryz.prog 3 rdB r (Maps.size D) D := by
  obtain ⟨es, c, h1, h2, h3, rfl⟩ := h
  exact ⟨es, c, h1, h2, by simp [Maps.size, length_sorted], rfl⟩
theorem MapF.store {w : World} {r : Nat} {es : Es} (h : MapF w r es) (k : Int) (hk : I64 k) (v : Int × Int) (hn : es.length < 1000000) :
    ∃ w', (Instr.mapUpdate 147 (.map (some r)) (.int .i64 k) (.agg #[.int .i64 v.1, .int .i64 v.2])).run Tryz.prog w = .ok () w' ∧ MapF w' r (setE es k v) ∧ w.mapTurned w' r := by
  obtain ⟨D, h1, hT, hs, hg⟩ := h
  obtain ⟨w', hr, h2, ht⟩ := h1.store kInt Tryz.underlying147 (by simp only [maxLen]; omega) (keyI hk) (rdB_mk v)
  have hkl : WideAt.IsKeyLit (.int .i64 k) := by trivial
  have hsz : Maps.size (D.put (.int .i64 k) (.agg [.lit (.int .i64 v.1), .lit (.int .i64 v.2)])) = (setE es k v).length := by
    rw [Maps.size_put hT, set_len, hs, (hg k hk).1]
  refine ⟨w', hr, ⟨_, by rw [← hsz]; exact owns_tight h2, hT.put hkl _, hsz, fun q hq => ?_⟩, ht⟩
  rw [getE_set]
  by_cases e : q = k
  · subst e
    rw [if_pos rfl]
    exact ⟨Maps.has_put_same hT.isMap hkl _, Maps.atKey_put_same hT.isMap hkl _ _⟩
  · have hne : Lit.int .i64 q ≠ Lit.int .i64 k := by
      intro h
      injection h with _ h
      exact e h
    rw [if_neg e, Maps.has_put_other hne, Maps.atKey_put_other hne]
    exact hg q hq
theorem MapF.lookOk {w : World} {r : Nat} {es : Es} (h : MapF w r es) (k : Int) (hk : I64 k) :
    (Instr.lookup 147 (.map (some r)) (.int .i64 k) true).run Tryz.prog w = .ok (.tuple #[.agg #[.int .i64 ((getE es k).getD (0, 0)).1, .int .i64 ((getE es k).getD (0, 0)).2], .bool (getE es k).isSome]) w := by
  obtain ⟨D, h1, hT, hs, hg⟩ := h
  obtain ⟨v, ps, hr, hv⟩ := h1.look_ok (zd := zB) kInt Tryz.underlying147 (zeroB w) (rdB_mk (0, 0)) (keyI hk)
  rw [(hg k hk).2] at hv
  rw [hr, rdB_inv hv, (hg k hk).1]
theorem MapF.look {w : World} {r : Nat} {es : Es} (h : MapF w r es) (k : Int) (hk : I64 k) :
    (Instr.lookup 147 (.map (some r)) (.int .i64 k) false).run Tryz.prog w = .ok (.agg #[.int .i64 ((getE es k).getD (0, 0)).1, .int .i64 ((getE es k).getD (0, 0)).2]) w := by
  obtain ⟨D, h1, hT, hs, hg⟩ := h
  obtain ⟨v, ps, hr, hv⟩ := h1.lookup (zd := zB) kInt Tryz.underlying147 (zeroB w) (rdB_mk (0, 0)) (keyI hk)
  rw [(hg k hk).2] at hv
  rw [hr, rdB_inv hv]
theorem MapF.len {w : World} {r : Nat} {es : Es} (h : MapF w r es) (ty : TypeId) : (Builtin.len_ #[147] ty #[.map (some r)]).run Tryz.prog w = .ok (.int .i64 es.length) w := by
  obtain ⟨D, h1, hT, hs, hg⟩ := h
  rw [h1.len Tryz.underlying147 ty, hs]
end Go.Proofs.YtmnebeikafigjaaGreatDoor
/- ctrl's stack and walker. -/
set_option linter.unusedVariables false
set_option linter.unusedSimpArgs false
namespace Go.Proofs.YtmnebeikafigjaaGreatDoor
open Go.RowKit Go.Sep Go.St
theorem infoInt : (Tryz.prog.info? 3).map (fun i => (i.zero, i.size, i.bytes)) = some (some (.int .i64 0), 1, 8) := by kernel_rfl
theorem below_then {a b c : World} (h : Below a.heap.size a b) (k : Below b.heap.size b c) : Below a.heap.size a c :=
  h.trans ⟨k.os, k.tape, k.output, k.size, fun i hi => k.block i (Nat.lt_of_lt_of_le hi h.size)⟩
theorem heap_lt {w : World} {b : Nat} {o : Obj} (h : w.heap[b]? = some o) : b < w.heap.size := (Array.getElem?_eq_some_iff.1 h).1
/-- A walker of one's own: what it has, and that all behind W's end alone has turned. -/
structure Wk (W w : World) (b mr : Nat) (lv sv : Value) (st : List Int) (es : Es) (dp : Int) : Prop where
  bel : Below W.heap.size W w
  cells : w.heap[b]? = some (.cells #[sv, lv, .map (some mr), .int .i64 dp] 281 (0, 0))
  row : Row w 3 1 sv (ints .i64 st)
  map : MapF w mr es
  hb : W.heap.size ≤ b
  hm : W.heap.size ≤ mr
  hr : ∀ k, rowBlock sv = some k → W.heap.size ≤ k ∧ k ≠ b ∧ k ≠ mr
  ne : b ≠ mr
variable {W w : World} {b mr : Nat} {lv sv : Value} {st : List Int} {es : Es} {dp : Int}
theorem Wk.c0 (h : Wk W w b mr lv sv st es dp) : w.cell? ⟨b, 0, none⟩ = some sv := by simp [World.cell?, h.cells]
theorem Wk.c1 (h : Wk W w b mr lv sv st es dp) : w.cell? ⟨b, 1, none⟩ = some lv := by simp [World.cell?, h.cells]
theorem Wk.c2 (h : Wk W w b mr lv sv st es dp) : w.cell? ⟨b, 2, none⟩ = some (.map (some mr)) := by simp [World.cell?, h.cells]
theorem Wk.c3 (h : Wk W w b mr lv sv st es dp) : w.cell? ⟨b, 3, none⟩ = some (.int .i64 dp) := by simp [World.cell?, h.cells]
theorem Wk.fz (h : Wk W w b mr lv sv st es dp) (j : Nat) : w.frozen? ⟨b, j, none⟩ = false := by simp [World.frozen?, h.cells]
theorem Wk.still {w1 : World} (h : Wk W w b mr lv sv st es dp) (q : Below w.heap.size w w1) : Wk W w1 b mr lv sv st es dp :=
  ⟨below_then h.bel q, (q.block b (heap_lt h.cells)).trans h.cells, h.row.move fun k hk => q.block k (h.row.lt hk), h.map.move (q.block mr h.map.lt), h.hb, h.hm, h.hr, h.ne⟩
theorem Wk.drewN (h : Wk W w b mr lv sv st es dp) (n : Nat) : Wk W (w.drewN n) b mr lv sv st es dp := h.still ⟨rfl, rfl, rfl, Nat.le_refl _, fun _ _ => rfl⟩
theorem Wk.drew (h : Wk W w b mr lv sv st es dp) : Wk W w.drew b mr lv sv st es dp := h.still ⟨rfl, rfl, rfl, Nat.le_refl _, fun _ _ => rfl⟩
/-- The walker's cell j is written. -/
theorem Wk.set0 {sv1 : Value} {st1 : List Int} (h : Wk W w b mr lv sv st es dp) (hr : Row w 3 1 sv1 (ints .i64 st1)) (hd : ∀ k, rowBlock sv1 = some k → W.heap.size ≤ k ∧ k ≠ b ∧ k ≠ mr) :
    Wk W (w.setCell ⟨b, 0, none⟩ sv1) b mr lv sv1 st1 es dp :=
  ⟨h.bel.setCell h.hb _, by rw [setCell_heap b 0 sv1 h.cells b, if_pos rfl]; rfl, hr.move fun k hk => by rw [setCell_heap b 0 sv1 h.cells k, if_neg (hd k hk).2.1], h.map.move (by rw [setCell_heap b 0 sv1 h.cells mr, if_neg (Ne.symm h.ne)]), h.hb, h.hm, hd, h.ne⟩
theorem Wk.set3 (h : Wk W w b mr lv sv st es dp) (d : Int) : Wk W (w.setCell ⟨b, 3, none⟩ (.int .i64 d)) b mr lv sv st es d :=
  ⟨h.bel.setCell h.hb _, by rw [setCell_heap b 3 _ h.cells b, if_pos rfl]; rfl, h.row.move fun k hk => by rw [setCell_heap b 3 _ h.cells k, if_neg (h.hr k hk).2.1], h.map.move (by rw [setCell_heap b 3 _ h.cells mr, if_neg (Ne.symm h.ne)]), h.hb, h.hm, h.hr, h.ne⟩
/-- The stack's row has grown; what lies behind. -/
structure WkG (W w : World) (b mr : Nat) (lv sv sv1 : Value) (st1 : List Int) (es : Es) (dp : Int) : Prop where
  bel : Below W.heap.size W w
  cells : w.heap[b]? = some (.cells #[sv, lv, .map (some mr), .int .i64 dp] 281 (0, 0))
  row : Row w 3 1 sv1 (ints .i64 st1)
  map : MapF w mr es
  hb : W.heap.size ≤ b
  hm : W.heap.size ≤ mr
  hr : ∀ k, rowBlock sv1 = some k → W.heap.size ≤ k ∧ k ≠ b ∧ k ≠ mr
  ne : b ≠ mr
theorem Wk.grow {w1 : World} {sv1 : Value} {st1 : List Int} (h : Wk W w b mr lv sv st es dp) (hr : Row w1 3 1 sv1 (ints .i64 st1)) (hg : w.grownBy w1 (rowBlock sv)) (ha : rowBlock sv1 = rowBlock sv ∨ ∃ k, rowBlock sv1 = some k ∧ w.heap.size ≤ k) :
    WkG W w1 b mr lv sv sv1 st1 es dp := by
  have hbl := heap_lt h.cells
  have hml := h.map.lt
  refine ⟨h.bel.grown hg h.bel.size fun k hk => (h.hr k hk).1, (hg.block b hbl (fun e => (h.hr b e.symm).2.1 rfl)).trans h.cells, hr, h.map.move (hg.block mr hml (fun e => (h.hr mr e.symm).2.2 rfl)), h.hb, h.hm, fun k hk => ?_, h.ne⟩
  rcases ha with ha | ⟨q, hq, hle⟩
  · exact h.hr k (ha ▸ hk)
  · rw [hq] at hk
    cases hk
    exact ⟨Nat.le_trans h.bel.size hle, by omega, by omega⟩
theorem WkG.c0 {sv1 : Value} (h : WkG W w b mr lv sv sv1 st es dp) : w.cell? ⟨b, 0, none⟩ = some sv := by simp [World.cell?, h.cells]
theorem WkG.fz {sv1 : Value} (h : WkG W w b mr lv sv sv1 st es dp) (j : Nat) : w.frozen? ⟨b, j, none⟩ = false := by simp [World.frozen?, h.cells]
theorem WkG.put {sv1 : Value} (h : WkG W w b mr lv sv sv1 st es dp) : Wk W (w.setCell ⟨b, 0, none⟩ sv1) b mr lv sv1 st es dp :=
  ⟨h.bel.setCell h.hb _, by rw [setCell_heap b 0 sv1 h.cells b, if_pos rfl]; rfl, h.row.move fun k hk => by rw [setCell_heap b 0 sv1 h.cells k, if_neg (h.hr k hk).2.1], h.map.move (by rw [setCell_heap b 0 sv1 h.cells mr, if_neg (Ne.symm h.ne)]), h.hb, h.hm, h.hr, h.ne⟩
/-- The map has turned. -/
theorem Wk.turn {w1 : World} {es1 : Es} (h : Wk W w b mr lv sv st es dp) (hf : MapF w1 mr es1) (ht : w.mapTurned w1 mr) : Wk W w1 b mr lv sv st es1 dp := by
  have hg := ht.grown
  have hbl := heap_lt h.cells
  exact ⟨h.bel.grown hg h.bel.size fun k hk => by cases hk; exact h.hm, (hg.block b hbl (fun e => h.ne (Option.some.inj e))).trans h.cells, h.row.move fun k hk => hg.block k (h.row.lt hk) (fun e => (h.hr k hk).2.2 (Option.some.inj e)), hf, h.hb, h.hm, h.hr, h.ne⟩
theorem Row.cutTo {w : World} {e : Nat} {B : Option Addr} {n c m : Nat} {xs : List Value} (h : Row w e 1 (.slice B n c) xs) (hm : m ≤ n) : Row w e 1 (.slice B m c) (xs.take m) := by
  obtain ⟨A, q, c', e1, h1, hA, h2, h3, hr⟩ := h
  cases e1
  refine ⟨B, m, c, rfl, by rw [List.length_take]; omega, hA, by omega, h3, fun hc => ?_⟩
  obtain ⟨g, cur, q1, q2, q3, q4⟩ := hr hc
  exact ⟨g, cur, q1, q2, q3, by rw [← q4, List.take_take, Nat.mul_one, Nat.mul_one, Nat.min_eq_left hm]⟩
theorem rowBlock_len (B : Option Addr) (n m c : Nat) : rowBlock (.slice B n c) = rowBlock (.slice B m c) := by cases B <;> rfl
set_option maxHeartbeats 1000000 in
theorem cpush_c (at_ : Int) (hl : st.length ≤ 1000000) (h : Wk W w b mr lv sv st es dp) :
    Calls Tryz.prog 244 #[.pointer (some ⟨b, 0, none⟩), .int .i64 at_] w fun e w' => e = .returned (.tuple #[]) ∧ ∃ sv', Wk W w' b mr lv sv' (st ++ [at_]) es dp := by
  have c0 := h.c0
  obtain ⟨A, n, c, rfl, hnc, hcm, hxl, _⟩ := h.row.rd
  have H := Lib.hid h
  have H1 := Lib.hid (h.still ((Below.refl w.heap.size w).alloc (Nat.le_refl _) (.cells #[.int .i64 at_] 3)))
  have RD := Lib.hid (show Rd (w.alloc (.cells #[.int .i64 at_] 3)) 1 (some ⟨w.heap.size, 0, none⟩) 1 [.int .i64 at_] from ⟨rfl, fun _ => ⟨_, rfl, rfl, fun j u hu => by
    cases j with
    | zero => simp at hu; subst hu; simp [Addr.add]
    | succ j => simp at hu⟩⟩)
  have HN := Lib.hid (show ((ints .i64 st).length + 1) * 8 ≤ 140737488355328 by rw [ints_len]; omega)
  have HO := Lib.hid (show ∀ u ∈ [Value.int .i64 at_], u.oneCell' = true by simp [Value.oneCell'])
  clear hnc hcm hxl h hl
  rename_i hrd
  clear hrd
  go_enter Tryz.func244, Tryz.ntmps244
  go_wp2_with (at_builtin; refine wpList_append_row (by rfl) _ _ _ (by rfl) 3 1 (.int .i64 0) 8 Tryz.underlying279 infoInt rfl (by omega) (by omega) (.slice A n c) (ints .i64 st) (by rfl) (some ⟨w.heap.size, 0, none⟩) 1 1 [.int .i64 at_] (by rfl) H1.out.row RD.out HO.out HN.out ?_; intro B1 m1 c3 w1 hr1 hg1 ha1; have hr2 := hr1.out; rw [show ints .i64 st ++ [.int .i64 at_] = ints .i64 (st ++ [at_]) by simp [ints]] at hr2; have G := H1.out.grow hr2 hg1.out ha1.out; have g0 := G.c0; have gz := G.fz 0; have HG := Lib.hid G; clear G hr2 hr1 hg1 ha1 c0)
  go_end0
  exact ⟨rfl, _, HG.out.put⟩
end Go.Proofs.YtmnebeikafigjaaGreatDoor
/- ctrl's pop and top. -/
set_option linter.unusedVariables false
set_option linter.unusedSimpArgs false
namespace Go.Proofs.YtmnebeikafigjaaGreatDoor
open Go.RowKit Go.Sep Go.St
variable {W w : World} {b mr : Nat} {lv sv : Value} {st : List Int} {es : Es} {dp : Int}
theorem Row.cellAt {w : World} {e : Nat} {A : Option Addr} {n c : Nat} {xs : List Value} (h : Row w e 1 (.slice A n c) xs) (j : Nat) (v : Value) (hj : xs[j]? = some v) : ∃ g, A = some ⟨g, 0, none⟩ ∧ w.cell? ⟨g, j, none⟩ = some v := by
  obtain ⟨A', q, c', e1, h1, hA, h2, h3, hr⟩ := h
  cases e1
  have hl := (List.getElem?_eq_some_iff.1 hj).1
  obtain ⟨g, cur, rfl, q2, q3, q4⟩ := hr (by omega)
  refine ⟨g, rfl, ?_⟩
  rw [← q4, List.getElem?_take] at hj
  split at hj
  · simp [World.cell?, q2]; simpa using hj
  · cases hj
set_option maxHeartbeats 1000000 in
theorem cpop_none (h : Wk W w b mr lv sv [] es dp) :
    Calls Tryz.prog 253 #[.pointer (some ⟨b, 0, none⟩)] w fun e w' => e = .returned (.tuple #[.int .i64 0, .bool false]) ∧ Wk W w' b mr lv sv [] es dp := by
  have c0 := h.c0
  obtain ⟨A, n, c, rfl, hnc, hcm, hxl, hrd⟩ := h.row.rd
  obtain rfl : n = 0 := by simp [ints] at hxl; omega
  have H := Lib.hid h
  have q : IntKind.i64.wrap (-1) = -1 := by decide
  clear hnc hcm hxl h hrd
  go_enter Tryz.func253, Tryz.ntmps253
  go_wp2
  go_ret2
  exact ⟨rfl, H.out⟩
set_option maxHeartbeats 1000000 in
theorem cpop_some (k : Int) (hl : st.length ≤ 1000000) (h : Wk W w b mr lv sv (st ++ [k]) es dp) :
    Calls Tryz.prog 253 #[.pointer (some ⟨b, 0, none⟩)] w fun e w' => e = .returned (.tuple #[.int .i64 k, .bool true]) ∧ ∃ sv', Wk W w' b mr lv sv' st es dp := by
  have c0 := h.c0
  have z0 := h.fz 0
  obtain ⟨A, n, c, rfl, hnc, hcm, hxl, hrd⟩ := h.row.rd
  obtain rfl : n = st.length + 1 := by simp [ints] at hxl; omega
  obtain ⟨g, rfl, ck⟩ := Row.cellAt h.row st.length (.int .i64 k) (by simp [ints])
  have hcut := Row.cutTo h.row (m := st.length) (by omega)
  rw [show (ints .i64 (st ++ [k])).take st.length = ints .i64 st by simp [ints]] at hcut
  have H := Lib.hid (h.set0 hcut (fun k hk => h.hr k (by rw [rowBlock_len _ _ st.length]; exact hk)))
  have q0 : ((st.length + 1 : Nat) : Int) - 1 = (st.length : Int) := by omega
  have q : IntKind.i64.wrap (((st.length + 1 : Nat) : Int) - 1) = (st.length : Int) := by rw [q0]; exact IntWalk.i64_in _ (by omega)
  have q2 : IntKind.i64.wrap ((st.length : Int)) = (st.length : Int) := IntWalk.i64_in _ (by omega)
  have d0 : decide ((st.length : Int) < 0) = false := decide_eq_false (by omega)
  have d1 : st.length ≤ c := by omega
  have i1 : (0 : Int) ≤ st.length := by omega
  have i2 : (st.length : Int) < ((st.length + 1 : Nat) : Int) := by omega
  have i3 : (st.length : Int) ≤ (c : Int) := by omega
  clear hcm hxl h hrd hcut hnc
  go_enter Tryz.func253, Tryz.ntmps253
  go_wp2
  go_ret2
  exact ⟨rfl, _, H.out⟩
set_option maxHeartbeats 1000000 in
theorem ctop_none (h : Wk W w b mr lv sv [] es dp) :
    Calls Tryz.prog 252 #[.pointer (some ⟨b, 0, none⟩)] w fun e w' => e = .returned (.tuple #[.int .i64 0, .bool false]) ∧ Wk W w' b mr lv sv [] es dp := by
  have c0 := h.c0
  obtain ⟨A, n, c, rfl, hnc, hcm, hxl, hrd⟩ := h.row.rd
  obtain rfl : n = 0 := by simp [ints] at hxl; omega
  have H := Lib.hid h
  clear hnc hcm hxl h hrd
  go_enter Tryz.func252, Tryz.ntmps252
  go_wp2
  go_ret2
  exact ⟨rfl, H.out⟩
set_option maxHeartbeats 1000000 in
theorem ctop_some (k : Int) (hl : st.length ≤ 1000000) (h : Wk W w b mr lv sv (st ++ [k]) es dp) :
    Calls Tryz.prog 252 #[.pointer (some ⟨b, 0, none⟩)] w fun e w' => e = .returned (.tuple #[.int .i64 k, .bool true]) ∧ Wk W w' b mr lv sv (st ++ [k]) es dp := by
  have c0 := h.c0
  have z0 := h.fz 0
  have hd := fun n => h.drewN n
  obtain ⟨A, n, c, rfl, hnc, hcm, hxl, hrd⟩ := h.row.rd
  obtain rfl : n = st.length + 1 := by simp [ints] at hxl; omega
  obtain ⟨g, rfl, ck⟩ := Row.cellAt h.row st.length (.int .i64 k) (by simp [ints])
  have H := Lib.hid hd
  have q0 : ((st.length + 1 : Nat) : Int) - 1 = (st.length : Int) := by omega
  have q : IntKind.i64.wrap (((st.length + 1 : Nat) : Int) - 1) = (st.length : Int) := by rw [q0]; exact IntWalk.i64_in _ (by omega)
  have q2 : IntKind.i64.wrap ((st.length : Int)) = (st.length : Int) := IntWalk.i64_in _ (by omega)
  have d0 : decide (((st.length + 1 : Nat) : Int) = 0) = false := decide_eq_false (by omega)
  have d2 : (((st.length + 1 : Nat) : Int) == 0) = false := beq_eq_false_iff_ne.2 (by omega)
  have d3 : ((st.length + 1 : Nat) == 0) = false := beq_eq_false_iff_ne.2 (by omega)
  clear hcm hxl h hrd hnc hd
  go_enter Tryz.func252, Tryz.ntmps252
  go_wp2_with fail
  go_quiet (fail)
  go_wp2
  go_ret2
  exact ⟨rfl, H.out _⟩
end Go.Proofs.YtmnebeikafigjaaGreatDoor
/- ctrl's half and closes. -/
set_option linter.unusedVariables false
set_option linter.unusedSimpArgs false
namespace Go.Proofs.YtmnebeikafigjaaGreatDoor
open Go.RowKit Go.Sep Go.St
variable {W w : World} {b mr : Nat} {lv sv : Value} {st : List Int} {es : Es} {dp : Int}
/-- The op of instruction k. -/
def opA (l : List Ins) (k : Int) : Int := match l[k.toNat]? with
  | some x => x.op
  | none => -1
def stepE (l : List Ins) (at_ : Nat) (s : List Int × Es) : Option (List Int × Es) :=
  let op := opA l at_
  if op = 2 ∨ op = 3 ∨ op = 4 then some (s.1 ++ [(at_ : Int)], setE s.2 at_ (-1, 0))
  else if op = 5 then match s.1.getLast? with
    | some k => if opA l k = 4 ∧ ((getE s.2 k).getD (0, 0)).1 = -1 then some (s.1, setE s.2 k (at_, 0)) else none
    | none => none
  else if op = 11 then match s.1.getLast? with
    | some k => some (s.1.dropLast, setE s.2 k (((getE s.2 k).getD (0, 0)).1, at_))
    | none => if at_ + 1 = l.length then some s else none
  else some s
def runE (l : List Ins) : Nat → Option (List Int × Es)
  | 0 => some ([], [])
  | n + 1 => match runE l n with
    | some s => stepE l n s
    | none => none
theorem set_le (k : Int) (v : Int × Int) (es : Es) : (setE es k v).length ≤ es.length + 1 := by rw [set_len]; split <;> omega
theorem stepE_inv (l : List Ins) (at_ : Nat) (s s' : List Int × Es) (h : stepE l at_ s = some s') (hk : ∀ k ∈ s.1, 0 ≤ k ∧ k < (at_ : Int)) (hl : s.1.length ≤ at_) (he : s.2.length ≤ at_) :
    (∀ k ∈ s'.1, 0 ≤ k ∧ k < ((at_ + 1 : Nat) : Int)) ∧ s'.1.length ≤ at_ + 1 ∧ s'.2.length ≤ at_ + 1 := by
  have hs : ∀ k v, (setE s.2 k v).length ≤ at_ + 1 := fun k v => Nat.le_trans (set_le k v s.2) (by omega)
  have w : ∀ k ∈ s.1, 0 ≤ k ∧ k < ((at_ + 1 : Nat) : Int) := fun k h => ⟨(hk k h).1, by have := (hk k h).2; omega⟩
  unfold stepE at h
  simp only at h
  split at h
  · cases h
    refine ⟨fun k hkm => ?_, by simp; omega, hs _ _⟩
    rcases List.mem_append.1 hkm with h | h
    · exact w k h
    · rw [List.mem_singleton] at h
      omega
  split at h
  · split at h
    · split at h
      · cases h; exact ⟨w, by simp; omega, hs _ _⟩
      · cases h
    · cases h
  split at h
  · split at h
    · cases h
      exact ⟨fun k h => w k ((List.dropLast_sublist s.1).subset h), by simp; omega, hs _ _⟩
    · split at h
      · cases h; exact ⟨w, by omega, by omega⟩
      · cases h
  · cases h; exact ⟨w, by omega, by omega⟩
theorem runE_inv (l : List Ins) : ∀ (n : Nat) (s : List Int × Es), runE l n = some s → (∀ k ∈ s.1, 0 ≤ k ∧ k < (n : Int)) ∧ s.1.length ≤ n ∧ s.2.length ≤ n
  | 0, s, h => by
    cases h
    exact ⟨fun k h => by simp at h, by simp, by simp⟩
  | n + 1, s, h => by
    unfold runE at h
    cases hr : runE l n with
    | none => rw [hr] at h; cases h
    | some s0 =>
      rw [hr] at h
      obtain ⟨a, b, c⟩ := runE_inv l n s0 hr
      exact stepE_inv l n s0 s h a b c
structure LInv (W : World) (lv : Value) (l : List Ins) (st : List Int) (es : Es) : Prop where
  rd : RdL W (fun b => b < W.heap.size) 6 (InsR W (fun b => b < W.heap.size)) lv l
  top : ∀ k ∈ st, 0 ≤ k ∧ k < l.length
  len : st.length ≤ l.length
  es : es.length ≤ l.length
  ll : l.length ≤ 100000
theorem ins_cell {W w : World} {lv : Value} {l : List Ins} {st : List Int} {es : Es} (h : LInv W lv l st es) (hb : Below W.heap.size W w) (k : Int) (h0 : 0 ≤ k) (hk : k < l.length) :
    ∃ g o c, lv = .slice (some ⟨g, o, none⟩) l.length c ∧ l.length ≤ c ∧ w.cell? ⟨g, o + k.toNat * 6, none⟩ = some (.int .i64 (opA l k)) := by
  obtain ⟨A, c, rfl, h1, h2, h3, _⟩ := h.rd
  obtain ⟨g, o, rfl, hg, hc⟩ := h3 (by omega)
  have hx : l[k.toNat]? = some l[k.toNat] := List.getElem?_eq_getElem (by omega)
  obtain ⟨cs, g1, ⟨lv2, rfl, _⟩, g3⟩ := hc k.toNat _ hx
  have := g3 0 _ rfl
  refine ⟨g, o, c, rfl, h1, ?_⟩
  rw [hb.cell hg]
  simpa [opA, hx] using this
theorem field0 (w : World) (a c : Int) : (Instr.field 205 (.agg #[.int .i64 a, .int .i64 c]) 0).run Tryz.prog w = .ok (.int .i64 a) w := by
  simp [Instr.field, asAgg, go_sem]
set_option maxHeartbeats 2000000 in
theorem half_yes (k : Int) (l : List Ins) (at_ : Int) (st0 : List Int) (h : Wk W w b mr lv sv (st0 ++ [k]) es dp) (hI : LInv W lv l (st0 ++ [k]) es) (h4 : opA l k = 4) (he : ((getE es k).getD (0, 0)).1 = -1) :
    Calls Tryz.prog 245 #[.pointer (some ⟨b, 0, none⟩), .int .i64 at_] w fun e w' => e = .returned (.bool true) ∧ Wk W w' b mr lv sv (st0 ++ [k]) (setE es k (at_, 0)) dp := by
  have hk := hI.top k (by simp)
  have hlen := hI.len
  have hll := hI.ll
  have hel := hI.es
  rw [List.length_append, List.length_singleton] at hlen
  have hK : I64 k := ⟨by omega, by omega⟩
  have HT := Lib.hid (ctop_some k (by omega) h)
  have HS := Lib.hid (show ∀ w', Wk W w' b mr lv sv (st0 ++ [k]) es dp → ∃ g o c, lv = .slice (some ⟨g, o, none⟩) l.length c ∧ w'.cell? ⟨g, o + k.toNat * 6, none⟩ = some (.int .i64 4) from fun w' q => by
    obtain ⟨g, o, c, e, _, c4⟩ := ins_cell hI q.bel k hk.1 hk.2
    exact ⟨g, o, c, e, by rw [← h4]; exact c4⟩)
  have HL := Lib.hid (And.intro (show ∀ w', Wk W w' b mr lv sv (st0 ++ [k]) es dp → (Instr.lookup 147 (.map (some mr)) (.int .i64 k) false).run Tryz.prog w' = .ok (.agg #[.int .i64 (-1), .int .i64 ((getE es k).getD (0, 0)).2]) w' from fun w' q => by
    have := q.map.look k hK
    rwa [he] at this) (show ∀ w', Wk W w' b mr lv sv (st0 ++ [k]) es dp → ∃ w2, (Instr.mapUpdate 147 (.map (some mr)) (.int .i64 k) (.agg #[.int .i64 at_, .int .i64 0])).run Tryz.prog w' = .ok () w2 ∧ Wk W w2 b mr lv sv (st0 ++ [k]) (setE es k (at_, 0)) dp from fun w' q => by
    obtain ⟨w2, hr, hf, ht⟩ := q.map.store k hK (at_, 0) (by omega)
    exact ⟨w2, hr, q.turn hf ht⟩))
  have HI := Lib.hid (And.intro hk hll)
  clear h hI h4 he hlen hll hel hK
  go_enter Tryz.func245, Tryz.ntmps245
  go_wp2_with fail
  refine HT.out.mono ?_
  rintro e w1 ⟨rfl, h1⟩
  obtain ⟨g, o, c, rfl, cop⟩ := HS.out _ h1
  have c1 := h1.c1
  have c2 := h1.c2
  have lk := HL.out.1 _ h1
  obtain ⟨w2, hrun, h2⟩ := HL.out.2 _ h1
  have H2 := Lib.hid h2
  have fl := field0
  clear h1 h2
  generalize ((getE es k).getD (0, 0)).2 = z at *
  obtain ⟨n, rfl⟩ : ∃ n : Nat, k = n := ⟨k.toNat, by omega⟩
  obtain ⟨⟨hk0, hk1⟩, hll⟩ := HI.out
  rw [Int.toNat_natCast] at cop
  clear HI HS HL HT
  go_wp2
  go_ret
  exact ⟨rfl, H2.out⟩
set_option maxHeartbeats 2000000 in
theorem closes_yes (k : Int) (l : List Ins) (at_ : Int) (st0 : List Int) (h : Wk W w b mr lv sv (st0 ++ [k]) es dp) (hI : LInv W lv l (st0 ++ [k]) es) :
    Calls Tryz.prog 246 #[.pointer (some ⟨b, 0, none⟩), .int .i64 at_] w fun e w' => e = .returned (.bool true) ∧ ∃ sv', Wk W w' b mr lv sv' st0 (setE es k (((getE es k).getD (0, 0)).1, at_)) dp := by
  have hk := hI.top k (by simp)
  have hlen := hI.len
  have hll := hI.ll
  have hel := hI.es
  rw [List.length_append, List.length_singleton] at hlen
  have hK : I64 k := ⟨by omega, by omega⟩
  have HT := Lib.hid (cpop_some k (by omega) h)
  have HL := Lib.hid (And.intro (show ∀ w' sv, Wk W w' b mr lv sv st0 es dp → (Instr.lookup 147 (.map (some mr)) (.int .i64 k) false).run Tryz.prog w' = .ok (.agg #[.int .i64 ((getE es k).getD (0, 0)).1, .int .i64 ((getE es k).getD (0, 0)).2]) w' from fun w' sv q => q.map.look k hK) (show ∀ w' sv, Wk W w' b mr lv sv st0 es dp → ∃ w2, (Instr.mapUpdate 147 (.map (some mr)) (.int .i64 k) (.agg #[.int .i64 ((getE es k).getD (0, 0)).1, .int .i64 at_])).run Tryz.prog w' = .ok () w2 ∧ Wk W w2 b mr lv sv st0 (setE es k (((getE es k).getD (0, 0)).1, at_)) dp from fun w' sv q => by
    obtain ⟨w2, hr, hf, ht⟩ := q.map.store k hK (((getE es k).getD (0, 0)).1, at_) (by omega)
    exact ⟨w2, hr, q.turn hf ht⟩))
  have HI := Lib.hid (And.intro hk hll)
  clear h hI hlen hll hel hK hk
  have fl := field0
  generalize ((getE es k).getD (0, 0)).2 = z2 at *
  generalize ((getE es k).getD (0, 0)).1 = z at *
  go_enter Tryz.func246, Tryz.ntmps246
  go_wp2_with fail
  refine HT.out.mono ?_
  rintro e w1 ⟨rfl, sv1, h1⟩
  have c2 := h1.c2
  have lk := HL.out.1 _ _ h1.drew
  obtain ⟨w2, hrun, h2⟩ := HL.out.2 _ _ h1.drew
  have H2 := Lib.hid h2
  clear h1 h2
  clear HI HL HT
  go_wp2_with fail
  refine wp_region_z (fun w' => w'.cell? ⟨b, 2, none⟩ = some (.map (some mr)) ∧ (Instr.lookup 147 (.map (some mr)) (.int .i64 k) false).run Tryz.prog w' = .ok (.agg #[.int .i64 z, .int .i64 z2]) w') (fun j => j == 14) (by kernel_rfl) ?_ (fun hHeld => ?_)
  · exact ⟨c2, lk⟩
  (refine wpZ_take (i := 0) (oi := ⟨some 24, .move (.tmp 0), 276, _, _, none⟩) (v := ?_) rfl (by kernel_rfl) (fun _ _ _ h => h) (by assumption) (Or.inl ⟨by rfl, ?_⟩) ?_; rotate_left 1; · ((intro w hSw; (try dsimp only at hSw); go_split_ands; go_simp) <;> (try with_reducible rfl)))
  try simp only [Act.put, List.setIfInBounds_toArray, List.set_cons_zero, List.set_cons_succ]
  (refine wpZ_take (i := 1) (oi := ⟨some 25, .nilCheck (.tmp 24), 0, _, _, none⟩) (v := ?_) rfl (by kernel_rfl) (fun _ _ _ h => h) (by assumption) (Or.inl ⟨by rfl, ?_⟩) ?_; rotate_left 1; · ((intro w hSw; (try dsimp only at hSw); go_split_ands; go_simp) <;> (try with_reducible rfl)))
  try simp only [Act.put, List.setIfInBounds_toArray, List.set_cons_zero, List.set_cons_succ]
  (refine wpZ_take (i := 2) (oi := ⟨some 26, .fieldAddr 281 (.tmp 25) 2, 0, _, _, none⟩) (v := ?_) rfl (by kernel_rfl) (fun _ _ _ h => h) (by assumption) (Or.inl ⟨by rfl, ?_⟩) ?_; rotate_left 1; · ((intro w hSw; (try dsimp only at hSw); go_split_ands; go_simp) <;> (try with_reducible rfl)))
  try simp only [Act.put, List.setIfInBounds_toArray, List.set_cons_zero, List.set_cons_succ]
  (refine wpZ_take (i := 3) (oi := ⟨some 27, .load 147 (.tmp 26), 147, _, _, none⟩) (v := ?_) rfl (by kernel_rfl) (fun _ _ _ h => h) (by assumption) (Or.inl ⟨by rfl, ?_⟩) ?_; rotate_left 1; · ((intro w hSw; (try dsimp only at hSw); go_split_ands; go_simp) <;> (try with_reducible rfl)))
  try simp only [Act.put, List.setIfInBounds_toArray, List.set_cons_zero, List.set_cons_succ]
  (refine wpZ_take (i := 4) (oi := ⟨some 28, .move (.tmp 5), 3, _, _, none⟩) (v := ?_) rfl (by kernel_rfl) (fun _ _ _ h => h) (by assumption) (Or.inl ⟨by rfl, ?_⟩) ?_; rotate_left 1; · ((intro w hSw; (try dsimp only at hSw); go_split_ands; go_simp) <;> (try with_reducible rfl)))
  try simp only [Act.put, List.setIfInBounds_toArray, List.set_cons_zero, List.set_cons_succ]
  (refine wpZ_take (i := 5) (oi := ⟨some 29, .move (.tmp 0), 276, _, _, none⟩) (v := ?_) rfl (by kernel_rfl) (fun _ _ _ h => h) (by assumption) (Or.inl ⟨by rfl, ?_⟩) ?_; rotate_left 1; · ((intro w hSw; (try dsimp only at hSw); go_split_ands; go_simp) <;> (try with_reducible rfl)))
  try simp only [Act.put, List.setIfInBounds_toArray, List.set_cons_zero, List.set_cons_succ]
  (refine wpZ_take (i := 6) (oi := ⟨some 30, .nilCheck (.tmp 29), 0, _, _, none⟩) (v := ?_) rfl (by kernel_rfl) (fun _ _ _ h => h) (by assumption) (Or.inl ⟨by rfl, ?_⟩) ?_; rotate_left 1; · ((intro w hSw; (try dsimp only at hSw); go_split_ands; go_simp) <;> (try with_reducible rfl)))
  try simp only [Act.put, List.setIfInBounds_toArray, List.set_cons_zero, List.set_cons_succ]
  (refine wpZ_take (i := 7) (oi := ⟨some 31, .fieldAddr 281 (.tmp 30) 2, 0, _, _, none⟩) (v := ?_) rfl (by kernel_rfl) (fun _ _ _ h => h) (by assumption) (Or.inl ⟨by rfl, ?_⟩) ?_; rotate_left 1; · ((intro w hSw; (try dsimp only at hSw); go_split_ands; go_simp) <;> (try with_reducible rfl)))
  try simp only [Act.put, List.setIfInBounds_toArray, List.set_cons_zero, List.set_cons_succ]
  (refine wpZ_take (i := 8) (oi := ⟨some 32, .load 147 (.tmp 31), 147, _, _, none⟩) (v := ?_) rfl (by kernel_rfl) (fun _ _ _ h => h) (by assumption) (Or.inl ⟨by rfl, ?_⟩) ?_; rotate_left 1; · ((intro w hSw; (try dsimp only at hSw); go_split_ands; go_simp) <;> (try with_reducible rfl)))
  try simp only [Act.put, List.setIfInBounds_toArray, List.set_cons_zero, List.set_cons_succ]
  (refine wpZ_take (i := 9) (oi := ⟨some 33, .move (.tmp 5), 3, _, _, none⟩) (v := ?_) rfl (by kernel_rfl) (fun _ _ _ h => h) (by assumption) (Or.inl ⟨by rfl, ?_⟩) ?_; rotate_left 1; · ((intro w hSw; (try dsimp only at hSw); go_split_ands; go_simp) <;> (try with_reducible rfl)))
  try simp only [Act.put, List.setIfInBounds_toArray, List.set_cons_zero, List.set_cons_succ]
  (refine wpZ_take (i := 10) (oi := ⟨some 34, .lookup 147 (.tmp 32) (.tmp 33) false, 205, _, _, none⟩) (v := ?_) rfl (by kernel_rfl) (fun _ _ _ h => h) (by assumption) (Or.inl ⟨by rfl, ?_⟩) ?_; rotate_left 1; · ((intro w hSw; (try dsimp only at hSw); go_split_ands; go_simp) <;> (try with_reducible rfl)))
  try simp only [Act.put, List.setIfInBounds_toArray, List.set_cons_zero, List.set_cons_succ]
  (refine wpZ_take (i := 11) (oi := ⟨some 35, .field 205 (.tmp 34) 0, 3, _, _, none⟩) (v := ?_) rfl (by kernel_rfl) (fun _ _ _ h => h) (by assumption) (Or.inl ⟨by rfl, ?_⟩) ?_; rotate_left 1; · ((intro w hSw; (try dsimp only at hSw); go_split_ands; go_simp) <;> (try with_reducible rfl)))
  try simp only [Act.put, List.setIfInBounds_toArray, List.set_cons_zero, List.set_cons_succ]
  (refine wpZ_take (i := 12) (oi := ⟨some 36, .move (.tmp 1), 3, _, _, none⟩) (v := ?_) rfl (by kernel_rfl) (fun _ _ _ h => h) (by assumption) (Or.inl ⟨by rfl, ?_⟩) ?_; rotate_left 1; · ((intro w hSw; (try dsimp only at hSw); go_split_ands; go_simp) <;> (try with_reducible rfl)))
  try simp only [Act.put, List.setIfInBounds_toArray, List.set_cons_zero, List.set_cons_succ]
  (refine wpZ_take (i := 13) (oi := ⟨some 37, .build 205 #[(0, .tmp 35), (1, .tmp 36)], 205, _, _, none⟩) (v := ?_) rfl (by kernel_rfl) (fun _ _ _ h => h) (by assumption) (Or.inl ⟨by rfl, ?_⟩) ?_; rotate_left 1; · ((intro w hSw; (try dsimp only at hSw); go_split_ands; go_simp) <;> (try with_reducible rfl)))
  try simp only [Act.put, List.setIfInBounds_toArray, List.set_cons_zero, List.set_cons_succ]
  refine wpZ_one (i := 14) (oi := ⟨none, .mapUpdate 147 (.tmp 27) (.tmp 28) (.tmp 37), 0, _, _, none⟩) rfl (by kernel_rfl) (fun K hK => ?_)
  go_simp
  refine hK.out _ _ (fun h => by simp at h) (fun _ => ?_)
  clear hK K
  try simp only [Act.put, List.setIfInBounds_toArray, List.set_cons_zero, List.set_cons_succ]
  refine wpZ_done (by kernel_rfl) ?_ _
  go_wp2
  go_ret
  exact ⟨rfl, _, H2.out⟩
set_option maxHeartbeats 2000000 in
theorem closes_last (l : List Ins) (at_ : Int) (ha : at_ + 1 = l.length) (h : Wk W w b mr lv sv [] es dp) (hI : LInv W lv l [] es) :
    Calls Tryz.prog 246 #[.pointer (some ⟨b, 0, none⟩), .int .i64 at_] w fun e w' => e = .returned (.bool true) ∧ Wk W w' b mr lv sv [] es dp := by
  have hll := hI.ll
  have HT := Lib.hid (cpop_none h)
  obtain ⟨A, c, rfl, _, _, _, _⟩ := hI.rd
  have q1 : IntKind.i64.wrap ((l.length : Int) - 1) = at_ := by rw [IntWalk.i64_in _ (by omega)]; omega
  have q2 : ((l.length : Int) - 1) = at_ := by omega
  clear h hI ha
  go_enter Tryz.func246, Tryz.ntmps246
  go_wp2_with fail
  refine HT.out.mono ?_
  rintro e w1 ⟨rfl, h1⟩
  have c1 := h1.c1
  have H2 := Lib.hid h1
  clear h1
  go_wp2
  go_ret
  exact ⟨by simp, H2.out⟩
end Go.Proofs.YtmnebeikafigjaaGreatDoor
/- ctrl's one. -/
set_option linter.unusedVariables false
set_option linter.unusedSimpArgs false
namespace Go.Proofs.YtmnebeikafigjaaGreatDoor
open Go.RowKit Go.Sep Go.St
variable {W w : World} {b mr : Nat} {lv sv : Value} {st : List Int} {es : Es} {dp : Int}
def OneOk (W : World) (b mr : Nat) (lv : Value) (s' : List Int × Es) (e : Ending) (w' : World) : Prop := e = .returned (.bool true) ∧ ∃ sv' dp', (-1000000 ≤ dp' ∧ dp' ≤ 1000000) ∧ Wk W w' b mr lv sv' s'.1 s'.2 dp'
set_option maxRecDepth 100000 in
set_option maxHeartbeats 4000000 in
theorem cone_c (l : List Ins) (n : Nat) (hn : n < l.length) (s' : List Int × Es) (h : Wk W w b mr lv sv st es dp) (hI : LInv W lv l st es) (hs : stepE l n (st, es) = some s') (hn2 : st.length ≤ n ∧ es.length ≤ n) (hdp : -1000000 ≤ dp ∧ dp ≤ 1000000) :
    Calls Tryz.prog 228 #[.pointer (some ⟨b, 0, none⟩), .int .i64 (n : Int)] w (OneOk W b mr lv s') := by
  have hll := hI.ll
  obtain ⟨g, o, c, rfl, _, cop⟩ := ins_cell hI h.bel (n : Int) (by omega) (by omega)
  rw [Int.toNat_natCast] at cop
  have c1 := h.c1
  have hN : I64 (n : Int) := ⟨by omega, by omega⟩
  have HB := Lib.hid (And.intro hll (And.intro hn hdp))
  have i1 : (n : Int) < (l.length : Int) := by omega
  unfold stepE at hs
  simp only at hs
  generalize opA l n = op at cop hs
  by_cases hA : op = 2 ∨ op = 3 ∨ op = 4
  · rw [if_pos hA] at hs
    cases hs
    have HP := Lib.hid (cpush_c (n : Int) (by have := hI.len; omega) h)
    have HS := Lib.hid (show ∀ w' sv, Wk W w' b mr (.slice (some ⟨g, o, none⟩) l.length c) sv (st ++ [(n : Int)]) es dp → ∃ w2, (Instr.mapUpdate 147 (.map (some mr)) (.int .i64 (n : Int)) (.agg #[.int .i64 (-1), .int .i64 0])).run Tryz.prog w' = .ok () w2 ∧ Wk W w2 b mr (.slice (some ⟨g, o, none⟩) l.length c) sv (st ++ [(n : Int)]) (setE es (n : Int) (-1, 0)) dp from fun w' sv q => by
      obtain ⟨w2, hr, hf, ht⟩ := q.map.store (n : Int) hN (-1, 0) (by have := hn2.2; omega)
      exact ⟨w2, hr, q.turn hf ht⟩)
    have HL := Lib.hid (show (st ++ [(n : Int)]).length = st.length + 1 ∧ st.length ≤ n from ⟨by simp, hn2.1⟩)
    clear h hI hn2 hN hll hn hdp
    rcases hA with rfl | rfl | rfl
    all_goals
      go_enter Tryz.func228, Tryz.ntmps228
      go_wp2_with fail
      refine HP.out.mono ?_
      rintro e w1 ⟨rfl, sv1, h1⟩
      obtain ⟨w2, hrun, h2⟩ := HS.out _ _ h1
      have d2 := h1.c2
      have e3 : w2.drew.cell? ⟨b, 3, none⟩ = some (.int .i64 dp) := h2.c3
      have e0 : w2.drew.cell? ⟨b, 0, none⟩ = some sv1 := h2.c0
      obtain ⟨A1, m1, k1, rfl, _, _, hx, _⟩ := h2.row.rd
      have hm1 : m1 = st.length + 1 := by rw [ints_len, HL.out.1] at hx; omega
      subst hm1
      have z3 : w2.drew.frozen? ⟨b, 3, none⟩ = false := h2.fz 3
      obtain ⟨q, hq, hq2⟩ : ∃ q : Int, (if ((st.length + 1 : Nat) : Int) < dp then dp else ((st.length + 1 : Nat) : Int)) = q ∧ (-1000000 ≤ q ∧ q ≤ 1000000) := ⟨_, rfl, by have := HB.out; have := HL.out.2; split <;> omega⟩
      obtain ⟨q', hq', hq2'⟩ : ∃ q : Int, (if dp < ((st.length + 1 : Nat) : Int) then ((st.length + 1 : Nat) : Int) else dp) = q ∧ (-1000000 ≤ q ∧ q ≤ 1000000) := ⟨_, rfl, by have := HB.out; have := HL.out.2; split <;> omega⟩
      have HQ := Lib.hid (And.intro hq2 hq2')
      have H2 := Lib.hid h2.drew
      clear h1 h2 cop c1 hq2 hq2'
      clear HP HS hx
      go_wp2_with fail
      refine wp_region_z (fun w' => w'.cell? ⟨b, 3, none⟩ = some (.int .i64 dp) ∧ w'.cell? ⟨b, 0, none⟩ = some (.slice A1 (st.length + 1) k1)) (fun j => j == 13) (by kernel_rfl) ?_ (fun hHeld => ?_)
      · exact ⟨e3, e0⟩
      (refine wpZ_take (i := 0) (oi := ⟨some 28, .move (.tmp 0), 276, _, _, none⟩) (v := ?_) rfl (by kernel_rfl) (fun _ _ _ h => h) (by assumption) (Or.inl ⟨by rfl, ?_⟩) ?_; rotate_left 1; · ((intro w hSw; (try dsimp only at hSw); go_split_ands; go_simp) <;> (try with_reducible rfl)))
      try simp only [Act.put, List.setIfInBounds_toArray, List.set_cons_zero, List.set_cons_succ]
      (refine wpZ_take (i := 1) (oi := ⟨some 29, .move (.tmp 0), 276, _, _, none⟩) (v := ?_) rfl (by kernel_rfl) (fun _ _ _ h => h) (by assumption) (Or.inl ⟨by rfl, ?_⟩) ?_; rotate_left 1; · ((intro w hSw; (try dsimp only at hSw); go_split_ands; go_simp) <;> (try with_reducible rfl)))
      try simp only [Act.put, List.setIfInBounds_toArray, List.set_cons_zero, List.set_cons_succ]
      (refine wpZ_take (i := 2) (oi := ⟨some 30, .nilCheck (.tmp 29), 0, _, _, none⟩) (v := ?_) rfl (by kernel_rfl) (fun _ _ _ h => h) (by assumption) (Or.inl ⟨by rfl, ?_⟩) ?_; rotate_left 1; · ((intro w hSw; (try dsimp only at hSw); go_split_ands; go_simp) <;> (try with_reducible rfl)))
      try simp only [Act.put, List.setIfInBounds_toArray, List.set_cons_zero, List.set_cons_succ]
      (refine wpZ_take (i := 3) (oi := ⟨some 31, .fieldAddr 281 (.tmp 30) 3, 0, _, _, none⟩) (v := ?_) rfl (by kernel_rfl) (fun _ _ _ h => h) (by assumption) (Or.inl ⟨by rfl, ?_⟩) ?_; rotate_left 1; · ((intro w hSw; (try dsimp only at hSw); go_split_ands; go_simp) <;> (try with_reducible rfl)))
      try simp only [Act.put, List.setIfInBounds_toArray, List.set_cons_zero, List.set_cons_succ]
      (refine wpZ_take (i := 4) (oi := ⟨some 32, .load 3 (.tmp 31), 3, _, _, none⟩) (v := ?_) rfl (by kernel_rfl) (fun _ _ _ h => h) (by assumption) (Or.inl ⟨by rfl, ?_⟩) ?_; rotate_left 1; · ((intro w hSw; (try dsimp only at hSw); go_split_ands; go_simp) <;> (try with_reducible rfl)))
      try simp only [Act.put, List.setIfInBounds_toArray, List.set_cons_zero, List.set_cons_succ]
      (refine wpZ_take (i := 5) (oi := ⟨some 33, .move (.tmp 0), 276, _, _, none⟩) (v := ?_) rfl (by kernel_rfl) (fun _ _ _ h => h) (by assumption) (Or.inl ⟨by rfl, ?_⟩) ?_; rotate_left 1; · ((intro w hSw; (try dsimp only at hSw); go_split_ands; go_simp) <;> (try with_reducible rfl)))
      try simp only [Act.put, List.setIfInBounds_toArray, List.set_cons_zero, List.set_cons_succ]
      (refine wpZ_take (i := 6) (oi := ⟨some 34, .nilCheck (.tmp 33), 0, _, _, none⟩) (v := ?_) rfl (by kernel_rfl) (fun _ _ _ h => h) (by assumption) (Or.inl ⟨by rfl, ?_⟩) ?_; rotate_left 1; · ((intro w hSw; (try dsimp only at hSw); go_split_ands; go_simp) <;> (try with_reducible rfl)))
      try simp only [Act.put, List.setIfInBounds_toArray, List.set_cons_zero, List.set_cons_succ]
      (refine wpZ_take (i := 7) (oi := ⟨some 35, .fieldAddr 281 (.tmp 34) 0, 0, _, _, none⟩) (v := ?_) rfl (by kernel_rfl) (fun _ _ _ h => h) (by assumption) (Or.inl ⟨by rfl, ?_⟩) ?_; rotate_left 1; · ((intro w hSw; (try dsimp only at hSw); go_split_ands; go_simp) <;> (try with_reducible rfl)))
      try simp only [Act.put, List.setIfInBounds_toArray, List.set_cons_zero, List.set_cons_succ]
      (refine wpZ_take (i := 8) (oi := ⟨some 36, .load 279 (.tmp 35), 279, _, _, none⟩) (v := ?_) rfl (by kernel_rfl) (fun _ _ _ h => h) (by assumption) (Or.inl ⟨by rfl, ?_⟩) ?_; rotate_left 1; · ((intro w hSw; (try dsimp only at hSw); go_split_ands; go_simp) <;> (try with_reducible rfl)))
      try simp only [Act.put, List.setIfInBounds_toArray, List.set_cons_zero, List.set_cons_succ]
      (refine wpZ_take (i := 9) (oi := ⟨some 37, .call { callee := .builtin .len, args := #[.tmp 36], argTypes := #[279] }, 3, _, _, none⟩) (v := ?_) rfl (by kernel_rfl) (fun _ _ _ h => h) (by assumption) (Or.inl ⟨by rfl, ?_⟩) ?_; rotate_left 1; · ((intro w hSw; (try dsimp only at hSw); go_split_ands; go_simp) <;> (try with_reducible rfl)))
      try simp only [Act.put, List.setIfInBounds_toArray, List.set_cons_zero, List.set_cons_succ]
      (refine wpZ_take (i := 10) (oi := ⟨some 38, .call { callee := .builtin .max, args := #[.tmp 32, .tmp 37], argTypes := #[3, 3] }, 3, _, _, none⟩) (v := ?_) rfl (by kernel_rfl) (fun _ _ _ h => h) (by assumption) (Or.inl ⟨by rfl, ?_⟩) ?_; rotate_left 1; · ((intro w hSw; (try dsimp only at hSw); go_split_ands; go_simp) <;> (try with_reducible rfl)))
      try simp only [Act.put, List.setIfInBounds_toArray, List.set_cons_zero, List.set_cons_succ]
      (refine wpZ_take (i := 11) (oi := ⟨some 39, .nilCheck (.tmp 28), 0, _, _, none⟩) (v := ?_) rfl (by kernel_rfl) (fun _ _ _ h => h) (by assumption) (Or.inl ⟨by rfl, ?_⟩) ?_; rotate_left 1; · ((intro w hSw; (try dsimp only at hSw); go_split_ands; go_simp) <;> (try with_reducible rfl)))
      try simp only [Act.put, List.setIfInBounds_toArray, List.set_cons_zero, List.set_cons_succ]
      (refine wpZ_take (i := 12) (oi := ⟨some 40, .fieldAddr 281 (.tmp 39) 3, 0, _, _, none⟩) (v := ?_) rfl (by kernel_rfl) (fun _ _ _ h => h) (by assumption) (Or.inl ⟨by rfl, ?_⟩) ?_; rotate_left 1; · ((intro w hSw; (try dsimp only at hSw); go_split_ands; go_simp) <;> (try with_reducible rfl)))
      try simp only [Act.put, List.setIfInBounds_toArray, List.set_cons_zero, List.set_cons_succ]
      refine wpZ_one (i := 13) (oi := ⟨none, .store 3 (.tmp 40) (.tmp 38), 0, _, _, none⟩) rfl (by kernel_rfl) (fun K hK => ?_)
      go_simp
      refine hK.out _ _ (fun h => by simp at h) (fun _ => ?_)
      clear hK K
      try simp only [Act.put, List.setIfInBounds_toArray, List.set_cons_zero, List.set_cons_succ]
      refine wpZ_done (by kernel_rfl) ?_ _
      go_wp2
      all_goals
        go_ret
        exact ⟨rfl, _, _, by have := HB.out; have := HL.out.2; omega, H2.out.set3 _⟩
  · rw [if_neg hA] at hs
    have n2 : (op == 2) = false := beq_eq_false_iff_ne.2 (fun e => hA (.inl e))
    have n3 : (op == 3) = false := beq_eq_false_iff_ne.2 (fun e => hA (.inr (.inl e)))
    have n4 : (op == 4) = false := beq_eq_false_iff_ne.2 (fun e => hA (.inr (.inr e)))
    have m2 : decide (op = 2) = false := decide_eq_false (fun e => hA (.inl e))
    have m3 : decide (op = 3) = false := decide_eq_false (fun e => hA (.inr (.inl e)))
    have m4 : decide (op = 4) = false := decide_eq_false (fun e => hA (.inr (.inr e)))
    by_cases h5 : op = 5
    · subst h5
      rw [if_pos rfl] at hs
      split at hs
      · rename_i k hk
        split at hs
        · rename_i hc
          cases hs
          obtain ⟨st0, rfl⟩ := List.getLast?_eq_some_iff.1 hk
          have HX := Lib.hid (half_yes k l (n : Int) st0 h hI hc.1 hc.2)
          have HD := Lib.hid hdp
          clear h hI hn2 hN hll hn hdp hc hk HB hA n2 n3 n4 m2 m3 m4
          go_enter Tryz.func228, Tryz.ntmps228
          go_wp2_with fail
          refine HX.out.mono ?_
          rintro e w1 ⟨rfl, h1⟩
          have H1 := Lib.hid h1
          clear h1
          go_wp2
          go_ret
          exact ⟨rfl, _, _, HD.out, H1.out⟩
        · cases hs
      · cases hs
    · rw [if_neg h5] at hs
      have n5 : (op == 5) = false := beq_eq_false_iff_ne.2 h5
      have m5 : decide (op = 5) = false := decide_eq_false h5
      by_cases h11 : op = 11
      · subst h11
        rw [if_pos rfl] at hs
        split at hs
        · rename_i k hk
          cases hs
          obtain ⟨st0, rfl⟩ := List.getLast?_eq_some_iff.1 hk
          have HX := Lib.hid (closes_yes k l (n : Int) st0 h hI)
          have HD := Lib.hid hdp
          clear h hI hn2 hN hll hn hdp hk HB hA n2 n3 n4 m2 m3 m4 n5 m5 h5
          go_enter Tryz.func228, Tryz.ntmps228
          go_wp2_with fail
          refine HX.out.mono ?_
          rintro e w1 ⟨rfl, sv1, h1⟩
          have H1 := Lib.hid h1
          clear h1
          go_wp2
          go_ret
          exact ⟨rfl, _, _, HD.out, by simpa using H1.out⟩
        · rename_i hk
          split at hs
          · rename_i hc
            cases hs
            obtain rfl : st = [] := List.getLast?_eq_none_iff.1 hk
            have HX := Lib.hid (closes_last l (n : Int) (by omega) h hI)
            have HD := Lib.hid hdp
            clear h hI hn2 hN hll hn hdp hk HB hA n2 n3 n4 m2 m3 m4 n5 m5 h5 hc
            go_enter Tryz.func228, Tryz.ntmps228
            go_wp2_with fail
            refine HX.out.mono ?_
            rintro e w1 ⟨rfl, h1⟩
            have H1 := Lib.hid h1
            clear h1
            go_wp2
            go_ret
            exact ⟨rfl, _, _, HD.out, H1.out⟩
          · cases hs
      · rw [if_neg h11] at hs
        cases hs
        have n11 : (op == 11) = false := beq_eq_false_iff_ne.2 h11
        have m11 : decide (op = 11) = false := decide_eq_false h11
        have H1 := Lib.hid h
        have HD := Lib.hid hdp
        clear h hI hn2 hN hll hn hdp HB hA h5 h11
        go_enter Tryz.func228, Tryz.ntmps228
        go_wp2
        go_ret
        exact ⟨rfl, _, _, HD.out, H1.out⟩
end Go.Proofs.YtmnebeikafigjaaGreatDoor
