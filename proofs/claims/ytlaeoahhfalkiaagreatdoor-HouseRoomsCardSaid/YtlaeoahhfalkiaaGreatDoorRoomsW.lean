/- The law HouseRooms: its call answers true. -/
import Derived.Test.YtlaeoahhfalkiaaGreatDoorRoomsV
set_option linter.unusedVariables false
namespace Go.Vm.Hr
open Go.Vm Go.Proofs Go.RowKit Go.Sep
set_option maxRecDepth 100000 in
set_option maxHeartbeats 4000000 in
theorem rooms_calls (nn : Int) (wn : (Lit.int .u8 nn).wf = true) (A : Option Addr) (len cap : Nat) (zs : List Int) (W : World) (y : IsRow .u8 W A len cap zs) :
    Calls Tryz.prog 4 #[.int .u8 nn, .slice A len cap] W fun e W' => e = .returned (.bool true) ∧ Below W.heap.size W W' := by
  obtain ⟨hcap, G0⟩ := row_get y
  have HG := Lib.hid G0
  have hnn := u8_wf wn
  clear y G0 wn
  by_cases h40 : len ≤ 40
  · have c40 : decide ((40 : Int) < (len : Int)) = false := decide_eq_false (by omega)
    have c40n : decide (40 < len) = false := decide_eq_false (by omega)
    obtain ⟨kk, hkk⟩ : ∃ kk : Nat, nn % 11 = (kk : Int) := ⟨(nn % 11).toNat, by omega⟩
    have hk10 : kk ≤ 10 := by omega
    have hw0 : IntKind.i64.wrap (kk : Int) = (kk : Int) := IntWalk.i64_in _ (by omega)
    go_enter Tryz.func4, Tryz.ntmps4
    go_wp2_with fail
    refine (begun_c _).mono ?_
    rintro e w1 ⟨rfl, hb1⟩
    go_wp2_with fail
    refine (tree_rel hT_b mixed_ok hF_b (by decide) New_r trivial (rel_nil e0 w1) .nil).mono ?_
    rintro e w2 ⟨r, rfl, hb2, M2, k2, R2, v2⟩
    obtain ⟨hp, hM2, rfl⟩ := v2.ptr0
    replace R2 : Rel e0 (none0 w1.heap.size (fun k => w1.heap[k]?)) M2 (TB (fixT 0)) w2 := by rw [← ev0]; exact R2
    have hw1 := hb1.size
    have H2 := Lib.hid (And.intro (hb1.trans (hb2.mono hw1)) (And.intro hM2 R2))
    have HW := Lib.hid hw1
    have HNN := Lib.hid hnn
    clear R2 k2 v2 hM2 hb1 hb2 hw1
    go_wp2_with fail
    clear hnn
    rw [hkk]
    clear hkk
    go_loopw [7] (fun i wr => ∃ j : Nat, j ≤ kk ∧ i = .int .i64 j ∧ Below W.heap.size W wr ∧ ∃ M, M 64 = some hp ∧ Rel e0 (none0 w1.heap.size (fun k => w1.heap[k]?)) M (TB (fixT j)) wr) (fun i _ => kk - (intOf i).toNat)
    case atStart => exact ⟨0, Nat.zero_le _, rfl, H2.out.1, M2, H2.out.2.1, H2.out.2.2⟩
    case round =>
      obtain ⟨j, hj, rfl, hbr, M, hM, R⟩ := hrel
      have HR := Lib.hid (And.intro hbr (And.intro hM R))
      clear hbr hM R
      by_cases hlt : j < kk
      · rcases (by omega : j = 0 ∨ j = 1 ∨ j = 2 ∨ j = 3 ∨ j = 4 ∨ j = 5 ∨ j = 6 ∨ j = 7 ∨ j = 8 ∨ j = 9) with rfl | rfl | rfl | rfl | rfl | rfl | rfl | rfl | rfl | rfl
        · have HLT := Lib.hid hlt
          have d0 : decide ((0 : Int) < (kk : Int)) = true := decide_eq_true (by omega)
          have d0n : decide (0 < kk) = true := decide_eq_true (by omega)
          have hch : IntKind.u8.wrap (IntKind.i64.wrap 97) = 97 := by decide
          clear hlt hj
          go_upto_region 10 with (fail)
          refine wp_region_z (fun w' => wr.heap.size ≤ w'.heap.size) (fun j => j == 12) (by kernel_rfl) ?_ (fun hHeld => ?_)
          · first | exact hsz | exact Nat.le_refl _ | (have h9 := hs1; simp <;> omega)
          (refine wpZ_take (i := 0) (oi := { dst := some 30, op := Go.Op.move (Go.Operand.tmp 5), type := 24, pos := "law.go:215", after := #[], guard := none }) (v := ?_) rfl (by kernel_rfl) (fun _ _ _ h => h) (by assumption) (Or.inl ⟨by rfl, ?_⟩) ?_; rotate_left 1; · ((intro w hSw; (try dsimp only at hSw); go_split_ands; go_simp) <;> (try with_reducible rfl)))
          try simp only [Act.put, List.setIfInBounds_toArray, List.set_cons_zero, List.set_cons_succ]
          (refine wpZ_take (i := 2) (oi := { dst := some 32, op := Go.Op.move (Go.Operand.tmp 7), type := 3, pos := "law.go:215", after := #[], guard := none }) (v := ?_) rfl (by kernel_rfl) (fun _ _ _ h => h) (by assumption) (Or.inl ⟨by rfl, ?_⟩) ?_; rotate_left 1; · ((intro w hSw; (try dsimp only at hSw); go_split_ands; go_simp) <;> (try with_reducible rfl)))
          try simp only [Act.put, List.setIfInBounds_toArray, List.set_cons_zero, List.set_cons_succ]
          (refine wpZ_take (i := 3) (oi := { dst := some 33, op := Go.Op.binOp Go.BinOp.add 3 (Go.Operand.const (Go.Value.int Go.IntKind.i64 97)) (Go.Operand.tmp 32) 3, type := 3, pos := "law.go:215", after := #[{ on := 2, ground := Go.Ground.data }], guard := none }) (v := ?_) rfl (by kernel_rfl) (fun _ _ _ h => h) (by assumption) (Or.inl ⟨by rfl, ?_⟩) ?_; rotate_left 1; · ((intro w hSw; (try dsimp only at hSw); go_split_ands; go_simp) <;> (try with_reducible rfl)))
          try simp only [Act.put, List.setIfInBounds_toArray, List.set_cons_zero, List.set_cons_succ]
          (refine wpZ_take (i := 4) (oi := { dst := some 34, op := Go.Op.convert 3 5 (Go.Operand.tmp 33), type := 5, pos := "law.go:215", after := #[{ on := 3, ground := Go.Ground.data }], guard := none }) (v := ?_) rfl (by kernel_rfl) (fun _ _ _ h => h) (by assumption) (Or.inl ⟨by rfl, ?_⟩) ?_; rotate_left 1; · ((intro w hSw; (try dsimp only at hSw); go_split_ands; go_simp) <;> (try with_reducible rfl)))
          try simp only [Act.put, List.setIfInBounds_toArray, List.set_cons_zero, List.set_cons_succ]
          refine wpZ_two (i := 1) (j := 5) (oi := { dst := some 31, op := Go.Op.call { callee := Go.Callee.value (Go.Operand.func 9), args := #[], argTypes := #[] }, type := 40, pos := "law.go:215", after := #[], guard := none }) (oj := { dst := some 35, op := Go.Op.buildSlice 22 2 #[(0, Go.Operand.const (Go.Value.int Go.IntKind.u8 114)), (1, Go.Operand.tmp 34)], type := 22, pos := "law.go:215", after := #[{ on := 4, ground := Go.Ground.data }], guard := none }) rfl rfl (by kernel_rfl) (fun K hK => ?_) (fun K hK => ?_)
          ·
            go_simp; have hs1 := hHeld; refine (fx0 _ _ _ wr _ hp HR.out.2.1 HR.out.2.2 (by first | exact ⟨rfl, rfl, rfl, Nat.le_refl _, fun _ _ => rfl⟩ | exact ⟨hcur.1, hcur.2, hcur.3, hcur.4, hcur.5⟩)).mono ?_; rintro e wF ⟨rF, MF, rfl, hbF, hkF, hMF, RF, vF⟩; have hsz : wr.heap.size ≤ wF.heap.size := Nat.le_trans hs1 hbF.size; have HKF := Lib.hid hkF; have hbW : Below W.heap.size W wF := HR.out.1.trans (Below.trans (by first | exact ⟨rfl, rfl, rfl, Nat.le_refl _, fun _ _ => rfl⟩ | exact Below.mono (B := wr.heap.size) ⟨hcur.1, hcur.2, hcur.3, hcur.4, hcur.5⟩ HR.out.1.size) (hbF.mono HW.out)); have HF := Lib.hid (And.intro hbW (And.intro hMF (And.intro RF vF))); clear hbF hbW hMF RF vF hkF hs1 hHeld; go_wp2_with fail
            refine hK.out _ _ (fun _ => by (first | exact hsz | exact Nat.le_refl _ | (have h9 := hs1; simp <;> omega))) (fun hh => ?_)
            have hHeld := hh rfl
            clear hK K
            try simp only [Act.put, List.setIfInBounds_toArray, List.set_cons_zero, List.set_cons_succ]
            refine wpZ_one (i := 5) (oi := { dst := some 35, op := Go.Op.buildSlice 22 2 #[(0, Go.Operand.const (Go.Value.int Go.IntKind.u8 114)), (1, Go.Operand.tmp 34)], type := 22, pos := "law.go:215", after := #[{ on := 4, ground := Go.Ground.data }], guard := none }) rfl (by kernel_rfl) (fun K hK => ?_)
            go_simp; have hs1 := hHeld; have hcur := (Below.refl wr.heap.size wr).alloc (Nat.le_refl _) (.cells #[.int .u8 114, .int .u8 97] 5); have hlt5 : wr.heap.size < (wr.alloc (.cells #[.int .u8 114, .int .u8 97] 5)).drew.heap.size := (by show wr.heap.size < (wr.alloc _).heap.size; simp)
            refine hK.out _ _ (fun _ => by (first | exact hsz | exact Nat.le_refl _ | (have h9 := hs1; simp <;> omega))) (fun hh => ?_)
            have hHeld := hh rfl
            clear hK K
            try simp only [Act.put, List.setIfInBounds_toArray, List.set_cons_zero, List.set_cons_succ]
            refine wpZ_one (i := 6) (oi := { dst := some 36, op := Go.Op.convert 22 9 (Go.Operand.tmp 35), type := 9, pos := "law.go:215", after := #[{ on := 5, ground := Go.Ground.data }], guard := none }) rfl (by kernel_rfl) (fun K hK => ?_)
            have hs1 := hHeld; have hsz := hHeld; (first | (have hcv := convK 97 (by decide) (HKF.out wr.heap.size (Nat.le_refl _) hlt5)) | (have hcv := convN wF 97 97 (by decide)) | (have hcv := convD wr 97 97 (by decide))); go_simp; clear hcv
            refine hK.out _ _ (fun _ => by (first | exact hsz | exact Nat.le_refl _ | (have h9 := hs1; simp <;> omega))) (fun hh => ?_)
            have hHeld := hh rfl
            clear hK K
            try simp only [Act.put, List.setIfInBounds_toArray, List.set_cons_zero, List.set_cons_succ]
            refine wpZ_one (i := 7) (oi := { dst := some 37, op := Go.Op.call { callee := Go.Callee.value (Go.Operand.func 8), args := #[Go.Operand.tmp 30, Go.Operand.tmp 31, Go.Operand.tmp 36], argTypes := #[24, 40, 9] }, type := 27, pos := "law.go:215", after := #[{ on := 0, ground := Go.Ground.data }, { on := 1, ground := Go.Ground.data }, { on := 6, ground := Go.Ground.data }, { on := 1, ground := Go.Ground.chain }], guard := none }) rfl (by kernel_rfl) (fun K hK => ?_)
            go_simp; clear hHeld; refine (mk0 _ _ MF wF _ hp rF HF.out.2.1 HF.out.2.2.1 HF.out.2.2.2 (by first | exact Below.refl _ _ | exact (Below.refl wF.heap.size wF).alloc (Nat.le_refl _) _)).mono ?_; rintro e wM ⟨rfl, hbM, MM, hMM, RM⟩; have hs2 : wF.heap.size ≤ wM.heap.size := Nat.le_trans (by first | exact Nat.le_refl _ | (simp <;> omega)) hbM.size; have hs1 : wr.heap.size ≤ wF.heap.size := (by first | exact hsz | (have h9 := hsz; omega)); have hsz := Nat.le_trans hs1 hs2; have hbX : Below W.heap.size W wM := HF.out.1.trans (Below.trans (by first | exact Below.refl _ _ | exact (Below.refl _ wF).alloc HF.out.1.size _) (hbM.mono HW.out)); have HM := Lib.hid (And.intro hbX (And.intro hMM RM)); clear hbM hMM RM hbX hs2; go_wp2_with fail
            refine hK.out _ _ (fun _ => by (first | exact hsz | exact Nat.le_refl _ | (have h9 := hs1; simp <;> omega))) (fun hh => ?_)
            have hHeld := hh rfl
            clear hK K
            try simp only [Act.put, List.setIfInBounds_toArray, List.set_cons_zero, List.set_cons_succ]
            (refine wpZ_take (i := 8) (oi := { dst := some 29, op := Go.Op.move (Go.Operand.tmp 37), type := 27, pos := "law.go:215", after := #[{ on := 7, ground := Go.Ground.data }], guard := none }) (v := ?_) rfl (by kernel_rfl) (fun _ _ _ h => h) (by assumption) (Or.inl ⟨by rfl, ?_⟩) ?_; rotate_left 1; · ((intro w hSw; (try dsimp only at hSw); go_split_ands; go_simp) <;> (try with_reducible rfl)))
            try simp only [Act.put, List.setIfInBounds_toArray, List.set_cons_zero, List.set_cons_succ]
            (refine wpZ_take (i := 9) (oi := { dst := some 38, op := Go.Op.extract (Go.Operand.tmp 29) 0, type := 3, pos := "law.go:215", after := #[{ on := 8, ground := Go.Ground.data }], guard := none }) (v := ?_) rfl (by kernel_rfl) (fun _ _ _ h => h) (by assumption) (Or.inl ⟨by rfl, ?_⟩) ?_; rotate_left 1; · ((intro w hSw; (try dsimp only at hSw); go_split_ands; go_simp) <;> (try with_reducible rfl)))
            try simp only [Act.put, List.setIfInBounds_toArray, List.set_cons_zero, List.set_cons_succ]
            (refine wpZ_take (i := 10) (oi := { dst := some 39, op := Go.Op.extract (Go.Operand.tmp 29) 1, type := 26, pos := "law.go:215", after := #[{ on := 8, ground := Go.Ground.data }, { on := 11, ground := Go.Ground.gcOnly Go.Departure.lateStores }], guard := none }) (v := ?_) rfl (by kernel_rfl) (fun _ _ _ h => h) (by assumption) (Or.inl ⟨by rfl, ?_⟩) ?_; rotate_left 1; · ((intro w hSw; (try dsimp only at hSw); go_split_ands; go_simp) <;> (try with_reducible rfl)))
            try simp only [Act.put, List.setIfInBounds_toArray, List.set_cons_zero, List.set_cons_succ]
            (refine wpZ_take (i := 11) (oi := { dst := some 8, op := Go.Op.assign (Go.Operand.tmp 38), type := 3, pos := "law.go:215", after := #[{ on := 9, ground := Go.Ground.data }, { on := 7, ground := Go.Ground.chain }, { on := 0, ground := Go.Ground.phase }, { on := 1, ground := Go.Ground.phase }, { on := 2, ground := Go.Ground.phase }, { on := 3, ground := Go.Ground.phase }, { on := 4, ground := Go.Ground.phase }, { on := 5, ground := Go.Ground.phase }, { on := 6, ground := Go.Ground.phase }, { on := 7, ground := Go.Ground.phase }, { on := 8, ground := Go.Ground.phase }, { on := 9, ground := Go.Ground.phase }, { on := 10, ground := Go.Ground.textOnly Go.Departure.lateStores }], guard := none }) (v := ?_) rfl (by kernel_rfl) (fun _ _ _ h => h) (by assumption) (Or.inl ⟨by rfl, ?_⟩) ?_; rotate_left 1; · ((intro w hSw; (try dsimp only at hSw); go_split_ands; go_simp) <;> (try with_reducible rfl)))
            try simp only [Act.put, List.setIfInBounds_toArray, List.set_cons_zero, List.set_cons_succ]
            refine wpZ_one (i := 12) (oi := { dst := some 9, op := Go.Op.assign (Go.Operand.tmp 39), type := 26, pos := "law.go:215", after := #[{ on := 10, ground := Go.Ground.data }, { on := 11, ground := Go.Ground.chain }, { on := 0, ground := Go.Ground.phase }, { on := 1, ground := Go.Ground.phase }, { on := 2, ground := Go.Ground.phase }, { on := 3, ground := Go.Ground.phase }, { on := 4, ground := Go.Ground.phase }, { on := 5, ground := Go.Ground.phase }, { on := 6, ground := Go.Ground.phase }, { on := 7, ground := Go.Ground.phase }, { on := 8, ground := Go.Ground.phase }, { on := 9, ground := Go.Ground.phase }, { on := 10, ground := Go.Ground.phase }, { on := 11, ground := Go.Ground.phase }], guard := none }) rfl (by kernel_rfl) (fun K hK => ?_)
            go_simp
            refine hK.out _ _ (fun h => by simp at h) (fun _ => ?_)
            clear hK K
            try simp only [Act.put, List.setIfInBounds_toArray, List.set_cons_zero, List.set_cons_succ]
            refine wpZ_done (by kernel_rfl) ?_ _
            have t1 : IntKind.i64.wrap 0 = 0 := (by decide); have t2 : IntKind.u64.wrap 0 = 0 := (by decide); have t3 : IntKind.u64.wrap 0 = 0 := (by decide); clear HF HKF; go_wp2_with fail; refine (iv0 _ _ MM wM wM hp _ HM.out.2.1 HM.out.2.2 (Below.refl _ _)).mono ?_; rintro e wI ⟨rfl, hbI, MI, hMI, RI⟩; have HN := Lib.hid (And.intro (HM.out.1.trans (hbI.mono HW.out)) (And.intro hMI RI)); clear hbI hMI RI; go_wp2; go_roundw; (case rel => (first | exact ⟨1, (by have := HLT.out; omega), (by first | rfl | go_num), HN.out.1, MI, HN.out.2⟩ | ((repeat (apply Exists.intro)); refine And.intro ?_ ?_; rotate_left; (focus rfl); (focus exact ⟨1, (by have := HLT.out; omega), (by first | rfl | go_num), HN.out.1, MI, HN.out.2⟩)))); (case measure => (simp [intOf]; (try (have := HLT.out; omega))))
          ·
            go_simp; have hs1 := hHeld; have hcur := (Below.refl wr.heap.size wr).alloc (Nat.le_refl _) (.cells #[.int .u8 114, .int .u8 97] 5); have hlt5 : wr.heap.size < (wr.alloc (.cells #[.int .u8 114, .int .u8 97] 5)).drew.heap.size := (by show wr.heap.size < (wr.alloc _).heap.size; simp)
            refine hK.out _ _ (fun _ => by (first | exact hsz | exact Nat.le_refl _ | (have h9 := hs1; simp <;> omega))) (fun hh => ?_)
            have hHeld := hh rfl
            clear hK K
            try simp only [Act.put, List.setIfInBounds_toArray, List.set_cons_zero, List.set_cons_succ]
            refine wpZ_two (i := 1) (j := 6) (oi := { dst := some 31, op := Go.Op.call { callee := Go.Callee.value (Go.Operand.func 9), args := #[], argTypes := #[] }, type := 40, pos := "law.go:215", after := #[], guard := none }) (oj := { dst := some 36, op := Go.Op.convert 22 9 (Go.Operand.tmp 35), type := 9, pos := "law.go:215", after := #[{ on := 5, ground := Go.Ground.data }], guard := none }) rfl rfl (by kernel_rfl) (fun K hK => ?_) (fun K hK => ?_)
            ·
              go_simp; have hs1 := hHeld; refine (fx0 _ _ _ wr _ hp HR.out.2.1 HR.out.2.2 (by first | exact ⟨rfl, rfl, rfl, Nat.le_refl _, fun _ _ => rfl⟩ | exact ⟨hcur.1, hcur.2, hcur.3, hcur.4, hcur.5⟩)).mono ?_; rintro e wF ⟨rF, MF, rfl, hbF, hkF, hMF, RF, vF⟩; have hsz : wr.heap.size ≤ wF.heap.size := Nat.le_trans hs1 hbF.size; have HKF := Lib.hid hkF; have hbW : Below W.heap.size W wF := HR.out.1.trans (Below.trans (by first | exact ⟨rfl, rfl, rfl, Nat.le_refl _, fun _ _ => rfl⟩ | exact Below.mono (B := wr.heap.size) ⟨hcur.1, hcur.2, hcur.3, hcur.4, hcur.5⟩ HR.out.1.size) (hbF.mono HW.out)); have HF := Lib.hid (And.intro hbW (And.intro hMF (And.intro RF vF))); clear hbF hbW hMF RF vF hkF hs1 hHeld; go_wp2_with fail
              refine hK.out _ _ (fun _ => by (first | exact hsz | exact Nat.le_refl _ | (have h9 := hs1; simp <;> omega))) (fun hh => ?_)
              have hHeld := hh rfl
              clear hK K
              try simp only [Act.put, List.setIfInBounds_toArray, List.set_cons_zero, List.set_cons_succ]
              refine wpZ_one (i := 6) (oi := { dst := some 36, op := Go.Op.convert 22 9 (Go.Operand.tmp 35), type := 9, pos := "law.go:215", after := #[{ on := 5, ground := Go.Ground.data }], guard := none }) rfl (by kernel_rfl) (fun K hK => ?_)
              have hs1 := hHeld; have hsz := hHeld; (first | (have hcv := convK 97 (by decide) (HKF.out wr.heap.size (Nat.le_refl _) hlt5)) | (have hcv := convN wF 97 97 (by decide)) | (have hcv := convD wr 97 97 (by decide))); go_simp; clear hcv
              refine hK.out _ _ (fun _ => by (first | exact hsz | exact Nat.le_refl _ | (have h9 := hs1; simp <;> omega))) (fun hh => ?_)
              have hHeld := hh rfl
              clear hK K
              try simp only [Act.put, List.setIfInBounds_toArray, List.set_cons_zero, List.set_cons_succ]
              refine wpZ_one (i := 7) (oi := { dst := some 37, op := Go.Op.call { callee := Go.Callee.value (Go.Operand.func 8), args := #[Go.Operand.tmp 30, Go.Operand.tmp 31, Go.Operand.tmp 36], argTypes := #[24, 40, 9] }, type := 27, pos := "law.go:215", after := #[{ on := 0, ground := Go.Ground.data }, { on := 1, ground := Go.Ground.data }, { on := 6, ground := Go.Ground.data }, { on := 1, ground := Go.Ground.chain }], guard := none }) rfl (by kernel_rfl) (fun K hK => ?_)
              go_simp; clear hHeld; refine (mk0 _ _ MF wF _ hp rF HF.out.2.1 HF.out.2.2.1 HF.out.2.2.2 (by first | exact Below.refl _ _ | exact (Below.refl wF.heap.size wF).alloc (Nat.le_refl _) _)).mono ?_; rintro e wM ⟨rfl, hbM, MM, hMM, RM⟩; have hs2 : wF.heap.size ≤ wM.heap.size := Nat.le_trans (by first | exact Nat.le_refl _ | (simp <;> omega)) hbM.size; have hs1 : wr.heap.size ≤ wF.heap.size := (by first | exact hsz | (have h9 := hsz; omega)); have hsz := Nat.le_trans hs1 hs2; have hbX : Below W.heap.size W wM := HF.out.1.trans (Below.trans (by first | exact Below.refl _ _ | exact (Below.refl _ wF).alloc HF.out.1.size _) (hbM.mono HW.out)); have HM := Lib.hid (And.intro hbX (And.intro hMM RM)); clear hbM hMM RM hbX hs2; go_wp2_with fail
              refine hK.out _ _ (fun _ => by (first | exact hsz | exact Nat.le_refl _ | (have h9 := hs1; simp <;> omega))) (fun hh => ?_)
              have hHeld := hh rfl
              clear hK K
              try simp only [Act.put, List.setIfInBounds_toArray, List.set_cons_zero, List.set_cons_succ]
              (refine wpZ_take (i := 8) (oi := { dst := some 29, op := Go.Op.move (Go.Operand.tmp 37), type := 27, pos := "law.go:215", after := #[{ on := 7, ground := Go.Ground.data }], guard := none }) (v := ?_) rfl (by kernel_rfl) (fun _ _ _ h => h) (by assumption) (Or.inl ⟨by rfl, ?_⟩) ?_; rotate_left 1; · ((intro w hSw; (try dsimp only at hSw); go_split_ands; go_simp) <;> (try with_reducible rfl)))
              try simp only [Act.put, List.setIfInBounds_toArray, List.set_cons_zero, List.set_cons_succ]
              (refine wpZ_take (i := 9) (oi := { dst := some 38, op := Go.Op.extract (Go.Operand.tmp 29) 0, type := 3, pos := "law.go:215", after := #[{ on := 8, ground := Go.Ground.data }], guard := none }) (v := ?_) rfl (by kernel_rfl) (fun _ _ _ h => h) (by assumption) (Or.inl ⟨by rfl, ?_⟩) ?_; rotate_left 1; · ((intro w hSw; (try dsimp only at hSw); go_split_ands; go_simp) <;> (try with_reducible rfl)))
              try simp only [Act.put, List.setIfInBounds_toArray, List.set_cons_zero, List.set_cons_succ]
              (refine wpZ_take (i := 10) (oi := { dst := some 39, op := Go.Op.extract (Go.Operand.tmp 29) 1, type := 26, pos := "law.go:215", after := #[{ on := 8, ground := Go.Ground.data }, { on := 11, ground := Go.Ground.gcOnly Go.Departure.lateStores }], guard := none }) (v := ?_) rfl (by kernel_rfl) (fun _ _ _ h => h) (by assumption) (Or.inl ⟨by rfl, ?_⟩) ?_; rotate_left 1; · ((intro w hSw; (try dsimp only at hSw); go_split_ands; go_simp) <;> (try with_reducible rfl)))
              try simp only [Act.put, List.setIfInBounds_toArray, List.set_cons_zero, List.set_cons_succ]
              (refine wpZ_take (i := 11) (oi := { dst := some 8, op := Go.Op.assign (Go.Operand.tmp 38), type := 3, pos := "law.go:215", after := #[{ on := 9, ground := Go.Ground.data }, { on := 7, ground := Go.Ground.chain }, { on := 0, ground := Go.Ground.phase }, { on := 1, ground := Go.Ground.phase }, { on := 2, ground := Go.Ground.phase }, { on := 3, ground := Go.Ground.phase }, { on := 4, ground := Go.Ground.phase }, { on := 5, ground := Go.Ground.phase }, { on := 6, ground := Go.Ground.phase }, { on := 7, ground := Go.Ground.phase }, { on := 8, ground := Go.Ground.phase }, { on := 9, ground := Go.Ground.phase }, { on := 10, ground := Go.Ground.textOnly Go.Departure.lateStores }], guard := none }) (v := ?_) rfl (by kernel_rfl) (fun _ _ _ h => h) (by assumption) (Or.inl ⟨by rfl, ?_⟩) ?_; rotate_left 1; · ((intro w hSw; (try dsimp only at hSw); go_split_ands; go_simp) <;> (try with_reducible rfl)))
              try simp only [Act.put, List.setIfInBounds_toArray, List.set_cons_zero, List.set_cons_succ]
              refine wpZ_one (i := 12) (oi := { dst := some 9, op := Go.Op.assign (Go.Operand.tmp 39), type := 26, pos := "law.go:215", after := #[{ on := 10, ground := Go.Ground.data }, { on := 11, ground := Go.Ground.chain }, { on := 0, ground := Go.Ground.phase }, { on := 1, ground := Go.Ground.phase }, { on := 2, ground := Go.Ground.phase }, { on := 3, ground := Go.Ground.phase }, { on := 4, ground := Go.Ground.phase }, { on := 5, ground := Go.Ground.phase }, { on := 6, ground := Go.Ground.phase }, { on := 7, ground := Go.Ground.phase }, { on := 8, ground := Go.Ground.phase }, { on := 9, ground := Go.Ground.phase }, { on := 10, ground := Go.Ground.phase }, { on := 11, ground := Go.Ground.phase }], guard := none }) rfl (by kernel_rfl) (fun K hK => ?_)
              go_simp
              refine hK.out _ _ (fun h => by simp at h) (fun _ => ?_)
              clear hK K
              try simp only [Act.put, List.setIfInBounds_toArray, List.set_cons_zero, List.set_cons_succ]
              refine wpZ_done (by kernel_rfl) ?_ _
              have t1 : IntKind.i64.wrap 0 = 0 := (by decide); have t2 : IntKind.u64.wrap 0 = 0 := (by decide); have t3 : IntKind.u64.wrap 0 = 0 := (by decide); clear HF HKF; go_wp2_with fail; refine (iv0 _ _ MM wM wM hp _ HM.out.2.1 HM.out.2.2 (Below.refl _ _)).mono ?_; rintro e wI ⟨rfl, hbI, MI, hMI, RI⟩; have HN := Lib.hid (And.intro (HM.out.1.trans (hbI.mono HW.out)) (And.intro hMI RI)); clear hbI hMI RI; go_wp2; go_roundw; (case rel => (first | exact ⟨1, (by have := HLT.out; omega), (by first | rfl | go_num), HN.out.1, MI, HN.out.2⟩ | ((repeat (apply Exists.intro)); refine And.intro ?_ ?_; rotate_left; (focus rfl); (focus exact ⟨1, (by have := HLT.out; omega), (by first | rfl | go_num), HN.out.1, MI, HN.out.2⟩)))); (case measure => (simp [intOf]; (try (have := HLT.out; omega))))
            ·
              have hs1 := hHeld; have hsz := hHeld; (first | (have hcv := convK 97 (by decide) (HKF.out wr.heap.size (Nat.le_refl _) hlt5)) | (have hcv := convN wF 97 97 (by decide)) | (have hcv := convD wr 97 97 (by decide))); go_simp; clear hcv
              refine hK.out _ _ (fun _ => by (first | exact hsz | exact Nat.le_refl _ | (have h9 := hs1; simp <;> omega))) (fun hh => ?_)
              have hHeld := hh rfl
              clear hK K
              try simp only [Act.put, List.setIfInBounds_toArray, List.set_cons_zero, List.set_cons_succ]
              refine wpZ_one (i := 1) (oi := { dst := some 31, op := Go.Op.call { callee := Go.Callee.value (Go.Operand.func 9), args := #[], argTypes := #[] }, type := 40, pos := "law.go:215", after := #[], guard := none }) rfl (by kernel_rfl) (fun K hK => ?_)
              go_simp; have hs1 := hHeld; refine (fx0 _ _ _ wr _ hp HR.out.2.1 HR.out.2.2 (by first | exact ⟨rfl, rfl, rfl, Nat.le_refl _, fun _ _ => rfl⟩ | exact ⟨hcur.1, hcur.2, hcur.3, hcur.4, hcur.5⟩)).mono ?_; rintro e wF ⟨rF, MF, rfl, hbF, hkF, hMF, RF, vF⟩; have hsz : wr.heap.size ≤ wF.heap.size := Nat.le_trans hs1 hbF.size; have HKF := Lib.hid hkF; have hbW : Below W.heap.size W wF := HR.out.1.trans (Below.trans (by first | exact ⟨rfl, rfl, rfl, Nat.le_refl _, fun _ _ => rfl⟩ | exact Below.mono (B := wr.heap.size) ⟨hcur.1, hcur.2, hcur.3, hcur.4, hcur.5⟩ HR.out.1.size) (hbF.mono HW.out)); have HF := Lib.hid (And.intro hbW (And.intro hMF (And.intro RF vF))); clear hbF hbW hMF RF vF hkF hs1 hHeld; go_wp2_with fail
              refine hK.out _ _ (fun _ => by (first | exact hsz | exact Nat.le_refl _ | (have h9 := hs1; simp <;> omega))) (fun hh => ?_)
              have hHeld := hh rfl
              clear hK K
              try simp only [Act.put, List.setIfInBounds_toArray, List.set_cons_zero, List.set_cons_succ]
              refine wpZ_one (i := 7) (oi := { dst := some 37, op := Go.Op.call { callee := Go.Callee.value (Go.Operand.func 8), args := #[Go.Operand.tmp 30, Go.Operand.tmp 31, Go.Operand.tmp 36], argTypes := #[24, 40, 9] }, type := 27, pos := "law.go:215", after := #[{ on := 0, ground := Go.Ground.data }, { on := 1, ground := Go.Ground.data }, { on := 6, ground := Go.Ground.data }, { on := 1, ground := Go.Ground.chain }], guard := none }) rfl (by kernel_rfl) (fun K hK => ?_)
              go_simp; clear hHeld; refine (mk0 _ _ MF wF _ hp rF HF.out.2.1 HF.out.2.2.1 HF.out.2.2.2 (by first | exact Below.refl _ _ | exact (Below.refl wF.heap.size wF).alloc (Nat.le_refl _) _)).mono ?_; rintro e wM ⟨rfl, hbM, MM, hMM, RM⟩; have hs2 : wF.heap.size ≤ wM.heap.size := Nat.le_trans (by first | exact Nat.le_refl _ | (simp <;> omega)) hbM.size; have hs1 : wr.heap.size ≤ wF.heap.size := (by first | exact hsz | (have h9 := hsz; omega)); have hsz := Nat.le_trans hs1 hs2; have hbX : Below W.heap.size W wM := HF.out.1.trans (Below.trans (by first | exact Below.refl _ _ | exact (Below.refl _ wF).alloc HF.out.1.size _) (hbM.mono HW.out)); have HM := Lib.hid (And.intro hbX (And.intro hMM RM)); clear hbM hMM RM hbX hs2; go_wp2_with fail
              refine hK.out _ _ (fun _ => by (first | exact hsz | exact Nat.le_refl _ | (have h9 := hs1; simp <;> omega))) (fun hh => ?_)
              have hHeld := hh rfl
              clear hK K
              try simp only [Act.put, List.setIfInBounds_toArray, List.set_cons_zero, List.set_cons_succ]
              (refine wpZ_take (i := 8) (oi := { dst := some 29, op := Go.Op.move (Go.Operand.tmp 37), type := 27, pos := "law.go:215", after := #[{ on := 7, ground := Go.Ground.data }], guard := none }) (v := ?_) rfl (by kernel_rfl) (fun _ _ _ h => h) (by assumption) (Or.inl ⟨by rfl, ?_⟩) ?_; rotate_left 1; · ((intro w hSw; (try dsimp only at hSw); go_split_ands; go_simp) <;> (try with_reducible rfl)))
              try simp only [Act.put, List.setIfInBounds_toArray, List.set_cons_zero, List.set_cons_succ]
              (refine wpZ_take (i := 9) (oi := { dst := some 38, op := Go.Op.extract (Go.Operand.tmp 29) 0, type := 3, pos := "law.go:215", after := #[{ on := 8, ground := Go.Ground.data }], guard := none }) (v := ?_) rfl (by kernel_rfl) (fun _ _ _ h => h) (by assumption) (Or.inl ⟨by rfl, ?_⟩) ?_; rotate_left 1; · ((intro w hSw; (try dsimp only at hSw); go_split_ands; go_simp) <;> (try with_reducible rfl)))
              try simp only [Act.put, List.setIfInBounds_toArray, List.set_cons_zero, List.set_cons_succ]
              (refine wpZ_take (i := 10) (oi := { dst := some 39, op := Go.Op.extract (Go.Operand.tmp 29) 1, type := 26, pos := "law.go:215", after := #[{ on := 8, ground := Go.Ground.data }, { on := 11, ground := Go.Ground.gcOnly Go.Departure.lateStores }], guard := none }) (v := ?_) rfl (by kernel_rfl) (fun _ _ _ h => h) (by assumption) (Or.inl ⟨by rfl, ?_⟩) ?_; rotate_left 1; · ((intro w hSw; (try dsimp only at hSw); go_split_ands; go_simp) <;> (try with_reducible rfl)))
              try simp only [Act.put, List.setIfInBounds_toArray, List.set_cons_zero, List.set_cons_succ]
              (refine wpZ_take (i := 11) (oi := { dst := some 8, op := Go.Op.assign (Go.Operand.tmp 38), type := 3, pos := "law.go:215", after := #[{ on := 9, ground := Go.Ground.data }, { on := 7, ground := Go.Ground.chain }, { on := 0, ground := Go.Ground.phase }, { on := 1, ground := Go.Ground.phase }, { on := 2, ground := Go.Ground.phase }, { on := 3, ground := Go.Ground.phase }, { on := 4, ground := Go.Ground.phase }, { on := 5, ground := Go.Ground.phase }, { on := 6, ground := Go.Ground.phase }, { on := 7, ground := Go.Ground.phase }, { on := 8, ground := Go.Ground.phase }, { on := 9, ground := Go.Ground.phase }, { on := 10, ground := Go.Ground.textOnly Go.Departure.lateStores }], guard := none }) (v := ?_) rfl (by kernel_rfl) (fun _ _ _ h => h) (by assumption) (Or.inl ⟨by rfl, ?_⟩) ?_; rotate_left 1; · ((intro w hSw; (try dsimp only at hSw); go_split_ands; go_simp) <;> (try with_reducible rfl)))
              try simp only [Act.put, List.setIfInBounds_toArray, List.set_cons_zero, List.set_cons_succ]
              refine wpZ_one (i := 12) (oi := { dst := some 9, op := Go.Op.assign (Go.Operand.tmp 39), type := 26, pos := "law.go:215", after := #[{ on := 10, ground := Go.Ground.data }, { on := 11, ground := Go.Ground.chain }, { on := 0, ground := Go.Ground.phase }, { on := 1, ground := Go.Ground.phase }, { on := 2, ground := Go.Ground.phase }, { on := 3, ground := Go.Ground.phase }, { on := 4, ground := Go.Ground.phase }, { on := 5, ground := Go.Ground.phase }, { on := 6, ground := Go.Ground.phase }, { on := 7, ground := Go.Ground.phase }, { on := 8, ground := Go.Ground.phase }, { on := 9, ground := Go.Ground.phase }, { on := 10, ground := Go.Ground.phase }, { on := 11, ground := Go.Ground.phase }], guard := none }) rfl (by kernel_rfl) (fun K hK => ?_)
              go_simp
              refine hK.out _ _ (fun h => by simp at h) (fun _ => ?_)
              clear hK K
              try simp only [Act.put, List.setIfInBounds_toArray, List.set_cons_zero, List.set_cons_succ]
              refine wpZ_done (by kernel_rfl) ?_ _
              have t1 : IntKind.i64.wrap 0 = 0 := (by decide); have t2 : IntKind.u64.wrap 0 = 0 := (by decide); have t3 : IntKind.u64.wrap 0 = 0 := (by decide); clear HF HKF; go_wp2_with fail; refine (iv0 _ _ MM wM wM hp _ HM.out.2.1 HM.out.2.2 (Below.refl _ _)).mono ?_; rintro e wI ⟨rfl, hbI, MI, hMI, RI⟩; have HN := Lib.hid (And.intro (HM.out.1.trans (hbI.mono HW.out)) (And.intro hMI RI)); clear hbI hMI RI; go_wp2; go_roundw; (case rel => (first | exact ⟨1, (by have := HLT.out; omega), (by first | rfl | go_num), HN.out.1, MI, HN.out.2⟩ | ((repeat (apply Exists.intro)); refine And.intro ?_ ?_; rotate_left; (focus rfl); (focus exact ⟨1, (by have := HLT.out; omega), (by first | rfl | go_num), HN.out.1, MI, HN.out.2⟩)))); (case measure => (simp [intOf]; (try (have := HLT.out; omega))))
        · have HLT := Lib.hid hlt
          have d0 : decide ((1 : Int) < (kk : Int)) = true := decide_eq_true (by omega)
          have d0n : decide (1 < kk) = true := decide_eq_true (by omega)
          have hch : IntKind.u8.wrap (IntKind.i64.wrap 98) = 98 := by decide
          clear hlt hj
          go_upto_region 10 with (fail)
          refine wp_region_z (fun w' => wr.heap.size ≤ w'.heap.size) (fun j => j == 12) (by kernel_rfl) ?_ (fun hHeld => ?_)
          · first | exact hsz | exact Nat.le_refl _ | (have h9 := hs1; simp <;> omega)
          (refine wpZ_take (i := 0) (oi := { dst := some 30, op := Go.Op.move (Go.Operand.tmp 5), type := 24, pos := "law.go:215", after := #[], guard := none }) (v := ?_) rfl (by kernel_rfl) (fun _ _ _ h => h) (by assumption) (Or.inl ⟨by rfl, ?_⟩) ?_; rotate_left 1; · ((intro w hSw; (try dsimp only at hSw); go_split_ands; go_simp) <;> (try with_reducible rfl)))
          try simp only [Act.put, List.setIfInBounds_toArray, List.set_cons_zero, List.set_cons_succ]
          (refine wpZ_take (i := 2) (oi := { dst := some 32, op := Go.Op.move (Go.Operand.tmp 7), type := 3, pos := "law.go:215", after := #[], guard := none }) (v := ?_) rfl (by kernel_rfl) (fun _ _ _ h => h) (by assumption) (Or.inl ⟨by rfl, ?_⟩) ?_; rotate_left 1; · ((intro w hSw; (try dsimp only at hSw); go_split_ands; go_simp) <;> (try with_reducible rfl)))
          try simp only [Act.put, List.setIfInBounds_toArray, List.set_cons_zero, List.set_cons_succ]
          (refine wpZ_take (i := 3) (oi := { dst := some 33, op := Go.Op.binOp Go.BinOp.add 3 (Go.Operand.const (Go.Value.int Go.IntKind.i64 97)) (Go.Operand.tmp 32) 3, type := 3, pos := "law.go:215", after := #[{ on := 2, ground := Go.Ground.data }], guard := none }) (v := ?_) rfl (by kernel_rfl) (fun _ _ _ h => h) (by assumption) (Or.inl ⟨by rfl, ?_⟩) ?_; rotate_left 1; · ((intro w hSw; (try dsimp only at hSw); go_split_ands; go_simp) <;> (try with_reducible rfl)))
          try simp only [Act.put, List.setIfInBounds_toArray, List.set_cons_zero, List.set_cons_succ]
          (refine wpZ_take (i := 4) (oi := { dst := some 34, op := Go.Op.convert 3 5 (Go.Operand.tmp 33), type := 5, pos := "law.go:215", after := #[{ on := 3, ground := Go.Ground.data }], guard := none }) (v := ?_) rfl (by kernel_rfl) (fun _ _ _ h => h) (by assumption) (Or.inl ⟨by rfl, ?_⟩) ?_; rotate_left 1; · ((intro w hSw; (try dsimp only at hSw); go_split_ands; go_simp) <;> (try with_reducible rfl)))
          try simp only [Act.put, List.setIfInBounds_toArray, List.set_cons_zero, List.set_cons_succ]
          refine wpZ_two (i := 1) (j := 5) (oi := { dst := some 31, op := Go.Op.call { callee := Go.Callee.value (Go.Operand.func 9), args := #[], argTypes := #[] }, type := 40, pos := "law.go:215", after := #[], guard := none }) (oj := { dst := some 35, op := Go.Op.buildSlice 22 2 #[(0, Go.Operand.const (Go.Value.int Go.IntKind.u8 114)), (1, Go.Operand.tmp 34)], type := 22, pos := "law.go:215", after := #[{ on := 4, ground := Go.Ground.data }], guard := none }) rfl rfl (by kernel_rfl) (fun K hK => ?_) (fun K hK => ?_)
          ·
            go_simp; have hs1 := hHeld; refine (fx1 _ _ _ wr _ hp HR.out.2.1 HR.out.2.2 (by first | exact ⟨rfl, rfl, rfl, Nat.le_refl _, fun _ _ => rfl⟩ | exact ⟨hcur.1, hcur.2, hcur.3, hcur.4, hcur.5⟩)).mono ?_; rintro e wF ⟨rF, MF, rfl, hbF, hkF, hMF, RF, vF⟩; have hsz : wr.heap.size ≤ wF.heap.size := Nat.le_trans hs1 hbF.size; have HKF := Lib.hid hkF; have hbW : Below W.heap.size W wF := HR.out.1.trans (Below.trans (by first | exact ⟨rfl, rfl, rfl, Nat.le_refl _, fun _ _ => rfl⟩ | exact Below.mono (B := wr.heap.size) ⟨hcur.1, hcur.2, hcur.3, hcur.4, hcur.5⟩ HR.out.1.size) (hbF.mono HW.out)); have HF := Lib.hid (And.intro hbW (And.intro hMF (And.intro RF vF))); clear hbF hbW hMF RF vF hkF hs1 hHeld; go_wp2_with fail
            refine hK.out _ _ (fun _ => by (first | exact hsz | exact Nat.le_refl _ | (have h9 := hs1; simp <;> omega))) (fun hh => ?_)
            have hHeld := hh rfl
            clear hK K
            try simp only [Act.put, List.setIfInBounds_toArray, List.set_cons_zero, List.set_cons_succ]
            refine wpZ_one (i := 5) (oi := { dst := some 35, op := Go.Op.buildSlice 22 2 #[(0, Go.Operand.const (Go.Value.int Go.IntKind.u8 114)), (1, Go.Operand.tmp 34)], type := 22, pos := "law.go:215", after := #[{ on := 4, ground := Go.Ground.data }], guard := none }) rfl (by kernel_rfl) (fun K hK => ?_)
            go_simp; have hs1 := hHeld; have hcur := (Below.refl wr.heap.size wr).alloc (Nat.le_refl _) (.cells #[.int .u8 114, .int .u8 98] 5); have hlt5 : wr.heap.size < (wr.alloc (.cells #[.int .u8 114, .int .u8 98] 5)).drew.heap.size := (by show wr.heap.size < (wr.alloc _).heap.size; simp)
            refine hK.out _ _ (fun _ => by (first | exact hsz | exact Nat.le_refl _ | (have h9 := hs1; simp <;> omega))) (fun hh => ?_)
            have hHeld := hh rfl
            clear hK K
            try simp only [Act.put, List.setIfInBounds_toArray, List.set_cons_zero, List.set_cons_succ]
            refine wpZ_one (i := 6) (oi := { dst := some 36, op := Go.Op.convert 22 9 (Go.Operand.tmp 35), type := 9, pos := "law.go:215", after := #[{ on := 5, ground := Go.Ground.data }], guard := none }) rfl (by kernel_rfl) (fun K hK => ?_)
            have hs1 := hHeld; have hsz := hHeld; (first | (have hcv := convK 98 (by decide) (HKF.out wr.heap.size (Nat.le_refl _) hlt5)) | (have hcv := convN wF 98 98 (by decide)) | (have hcv := convD wr 98 98 (by decide))); go_simp; clear hcv
            refine hK.out _ _ (fun _ => by (first | exact hsz | exact Nat.le_refl _ | (have h9 := hs1; simp <;> omega))) (fun hh => ?_)
            have hHeld := hh rfl
            clear hK K
            try simp only [Act.put, List.setIfInBounds_toArray, List.set_cons_zero, List.set_cons_succ]
            refine wpZ_one (i := 7) (oi := { dst := some 37, op := Go.Op.call { callee := Go.Callee.value (Go.Operand.func 8), args := #[Go.Operand.tmp 30, Go.Operand.tmp 31, Go.Operand.tmp 36], argTypes := #[24, 40, 9] }, type := 27, pos := "law.go:215", after := #[{ on := 0, ground := Go.Ground.data }, { on := 1, ground := Go.Ground.data }, { on := 6, ground := Go.Ground.data }, { on := 1, ground := Go.Ground.chain }], guard := none }) rfl (by kernel_rfl) (fun K hK => ?_)
            go_simp; clear hHeld; refine (mk1 _ _ MF wF _ hp rF HF.out.2.1 HF.out.2.2.1 HF.out.2.2.2 (by first | exact Below.refl _ _ | exact (Below.refl wF.heap.size wF).alloc (Nat.le_refl _) _)).mono ?_; rintro e wM ⟨rfl, hbM, MM, hMM, RM⟩; have hs2 : wF.heap.size ≤ wM.heap.size := Nat.le_trans (by first | exact Nat.le_refl _ | (simp <;> omega)) hbM.size; have hs1 : wr.heap.size ≤ wF.heap.size := (by first | exact hsz | (have h9 := hsz; omega)); have hsz := Nat.le_trans hs1 hs2; have hbX : Below W.heap.size W wM := HF.out.1.trans (Below.trans (by first | exact Below.refl _ _ | exact (Below.refl _ wF).alloc HF.out.1.size _) (hbM.mono HW.out)); have HM := Lib.hid (And.intro hbX (And.intro hMM RM)); clear hbM hMM RM hbX hs2; go_wp2_with fail
            refine hK.out _ _ (fun _ => by (first | exact hsz | exact Nat.le_refl _ | (have h9 := hs1; simp <;> omega))) (fun hh => ?_)
            have hHeld := hh rfl
            clear hK K
            try simp only [Act.put, List.setIfInBounds_toArray, List.set_cons_zero, List.set_cons_succ]
            (refine wpZ_take (i := 8) (oi := { dst := some 29, op := Go.Op.move (Go.Operand.tmp 37), type := 27, pos := "law.go:215", after := #[{ on := 7, ground := Go.Ground.data }], guard := none }) (v := ?_) rfl (by kernel_rfl) (fun _ _ _ h => h) (by assumption) (Or.inl ⟨by rfl, ?_⟩) ?_; rotate_left 1; · ((intro w hSw; (try dsimp only at hSw); go_split_ands; go_simp) <;> (try with_reducible rfl)))
            try simp only [Act.put, List.setIfInBounds_toArray, List.set_cons_zero, List.set_cons_succ]
            (refine wpZ_take (i := 9) (oi := { dst := some 38, op := Go.Op.extract (Go.Operand.tmp 29) 0, type := 3, pos := "law.go:215", after := #[{ on := 8, ground := Go.Ground.data }], guard := none }) (v := ?_) rfl (by kernel_rfl) (fun _ _ _ h => h) (by assumption) (Or.inl ⟨by rfl, ?_⟩) ?_; rotate_left 1; · ((intro w hSw; (try dsimp only at hSw); go_split_ands; go_simp) <;> (try with_reducible rfl)))
            try simp only [Act.put, List.setIfInBounds_toArray, List.set_cons_zero, List.set_cons_succ]
            (refine wpZ_take (i := 10) (oi := { dst := some 39, op := Go.Op.extract (Go.Operand.tmp 29) 1, type := 26, pos := "law.go:215", after := #[{ on := 8, ground := Go.Ground.data }, { on := 11, ground := Go.Ground.gcOnly Go.Departure.lateStores }], guard := none }) (v := ?_) rfl (by kernel_rfl) (fun _ _ _ h => h) (by assumption) (Or.inl ⟨by rfl, ?_⟩) ?_; rotate_left 1; · ((intro w hSw; (try dsimp only at hSw); go_split_ands; go_simp) <;> (try with_reducible rfl)))
            try simp only [Act.put, List.setIfInBounds_toArray, List.set_cons_zero, List.set_cons_succ]
            (refine wpZ_take (i := 11) (oi := { dst := some 8, op := Go.Op.assign (Go.Operand.tmp 38), type := 3, pos := "law.go:215", after := #[{ on := 9, ground := Go.Ground.data }, { on := 7, ground := Go.Ground.chain }, { on := 0, ground := Go.Ground.phase }, { on := 1, ground := Go.Ground.phase }, { on := 2, ground := Go.Ground.phase }, { on := 3, ground := Go.Ground.phase }, { on := 4, ground := Go.Ground.phase }, { on := 5, ground := Go.Ground.phase }, { on := 6, ground := Go.Ground.phase }, { on := 7, ground := Go.Ground.phase }, { on := 8, ground := Go.Ground.phase }, { on := 9, ground := Go.Ground.phase }, { on := 10, ground := Go.Ground.textOnly Go.Departure.lateStores }], guard := none }) (v := ?_) rfl (by kernel_rfl) (fun _ _ _ h => h) (by assumption) (Or.inl ⟨by rfl, ?_⟩) ?_; rotate_left 1; · ((intro w hSw; (try dsimp only at hSw); go_split_ands; go_simp) <;> (try with_reducible rfl)))
            try simp only [Act.put, List.setIfInBounds_toArray, List.set_cons_zero, List.set_cons_succ]
            refine wpZ_one (i := 12) (oi := { dst := some 9, op := Go.Op.assign (Go.Operand.tmp 39), type := 26, pos := "law.go:215", after := #[{ on := 10, ground := Go.Ground.data }, { on := 11, ground := Go.Ground.chain }, { on := 0, ground := Go.Ground.phase }, { on := 1, ground := Go.Ground.phase }, { on := 2, ground := Go.Ground.phase }, { on := 3, ground := Go.Ground.phase }, { on := 4, ground := Go.Ground.phase }, { on := 5, ground := Go.Ground.phase }, { on := 6, ground := Go.Ground.phase }, { on := 7, ground := Go.Ground.phase }, { on := 8, ground := Go.Ground.phase }, { on := 9, ground := Go.Ground.phase }, { on := 10, ground := Go.Ground.phase }, { on := 11, ground := Go.Ground.phase }], guard := none }) rfl (by kernel_rfl) (fun K hK => ?_)
            go_simp
            refine hK.out _ _ (fun h => by simp at h) (fun _ => ?_)
            clear hK K
            try simp only [Act.put, List.setIfInBounds_toArray, List.set_cons_zero, List.set_cons_succ]
            refine wpZ_done (by kernel_rfl) ?_ _
            have t1 : IntKind.i64.wrap 10 = 10 := (by decide); have t2 : IntKind.u64.wrap 10 = 10 := (by decide); have t3 : IntKind.u64.wrap 1 = 1 := (by decide); clear HF HKF; go_wp2_with fail; refine (iv1 _ _ MM wM wM hp _ HM.out.2.1 HM.out.2.2 (Below.refl _ _)).mono ?_; rintro e wI ⟨rfl, hbI, MI, hMI, RI⟩; have HN := Lib.hid (And.intro (HM.out.1.trans (hbI.mono HW.out)) (And.intro hMI RI)); clear hbI hMI RI; go_wp2; go_roundw; (case rel => (first | exact ⟨2, (by have := HLT.out; omega), (by first | rfl | go_num), HN.out.1, MI, HN.out.2⟩ | ((repeat (apply Exists.intro)); refine And.intro ?_ ?_; rotate_left; (focus rfl); (focus exact ⟨2, (by have := HLT.out; omega), (by first | rfl | go_num), HN.out.1, MI, HN.out.2⟩)))); (case measure => (simp [intOf]; (try (have := HLT.out; omega))))
          ·
            go_simp; have hs1 := hHeld; have hcur := (Below.refl wr.heap.size wr).alloc (Nat.le_refl _) (.cells #[.int .u8 114, .int .u8 98] 5); have hlt5 : wr.heap.size < (wr.alloc (.cells #[.int .u8 114, .int .u8 98] 5)).drew.heap.size := (by show wr.heap.size < (wr.alloc _).heap.size; simp)
            refine hK.out _ _ (fun _ => by (first | exact hsz | exact Nat.le_refl _ | (have h9 := hs1; simp <;> omega))) (fun hh => ?_)
            have hHeld := hh rfl
            clear hK K
            try simp only [Act.put, List.setIfInBounds_toArray, List.set_cons_zero, List.set_cons_succ]
            refine wpZ_two (i := 1) (j := 6) (oi := { dst := some 31, op := Go.Op.call { callee := Go.Callee.value (Go.Operand.func 9), args := #[], argTypes := #[] }, type := 40, pos := "law.go:215", after := #[], guard := none }) (oj := { dst := some 36, op := Go.Op.convert 22 9 (Go.Operand.tmp 35), type := 9, pos := "law.go:215", after := #[{ on := 5, ground := Go.Ground.data }], guard := none }) rfl rfl (by kernel_rfl) (fun K hK => ?_) (fun K hK => ?_)
            ·
              go_simp; have hs1 := hHeld; refine (fx1 _ _ _ wr _ hp HR.out.2.1 HR.out.2.2 (by first | exact ⟨rfl, rfl, rfl, Nat.le_refl _, fun _ _ => rfl⟩ | exact ⟨hcur.1, hcur.2, hcur.3, hcur.4, hcur.5⟩)).mono ?_; rintro e wF ⟨rF, MF, rfl, hbF, hkF, hMF, RF, vF⟩; have hsz : wr.heap.size ≤ wF.heap.size := Nat.le_trans hs1 hbF.size; have HKF := Lib.hid hkF; have hbW : Below W.heap.size W wF := HR.out.1.trans (Below.trans (by first | exact ⟨rfl, rfl, rfl, Nat.le_refl _, fun _ _ => rfl⟩ | exact Below.mono (B := wr.heap.size) ⟨hcur.1, hcur.2, hcur.3, hcur.4, hcur.5⟩ HR.out.1.size) (hbF.mono HW.out)); have HF := Lib.hid (And.intro hbW (And.intro hMF (And.intro RF vF))); clear hbF hbW hMF RF vF hkF hs1 hHeld; go_wp2_with fail
              refine hK.out _ _ (fun _ => by (first | exact hsz | exact Nat.le_refl _ | (have h9 := hs1; simp <;> omega))) (fun hh => ?_)
              have hHeld := hh rfl
              clear hK K
              try simp only [Act.put, List.setIfInBounds_toArray, List.set_cons_zero, List.set_cons_succ]
              refine wpZ_one (i := 6) (oi := { dst := some 36, op := Go.Op.convert 22 9 (Go.Operand.tmp 35), type := 9, pos := "law.go:215", after := #[{ on := 5, ground := Go.Ground.data }], guard := none }) rfl (by kernel_rfl) (fun K hK => ?_)
              have hs1 := hHeld; have hsz := hHeld; (first | (have hcv := convK 98 (by decide) (HKF.out wr.heap.size (Nat.le_refl _) hlt5)) | (have hcv := convN wF 98 98 (by decide)) | (have hcv := convD wr 98 98 (by decide))); go_simp; clear hcv
              refine hK.out _ _ (fun _ => by (first | exact hsz | exact Nat.le_refl _ | (have h9 := hs1; simp <;> omega))) (fun hh => ?_)
              have hHeld := hh rfl
              clear hK K
              try simp only [Act.put, List.setIfInBounds_toArray, List.set_cons_zero, List.set_cons_succ]
              refine wpZ_one (i := 7) (oi := { dst := some 37, op := Go.Op.call { callee := Go.Callee.value (Go.Operand.func 8), args := #[Go.Operand.tmp 30, Go.Operand.tmp 31, Go.Operand.tmp 36], argTypes := #[24, 40, 9] }, type := 27, pos := "law.go:215", after := #[{ on := 0, ground := Go.Ground.data }, { on := 1, ground := Go.Ground.data }, { on := 6, ground := Go.Ground.data }, { on := 1, ground := Go.Ground.chain }], guard := none }) rfl (by kernel_rfl) (fun K hK => ?_)
              go_simp; clear hHeld; refine (mk1 _ _ MF wF _ hp rF HF.out.2.1 HF.out.2.2.1 HF.out.2.2.2 (by first | exact Below.refl _ _ | exact (Below.refl wF.heap.size wF).alloc (Nat.le_refl _) _)).mono ?_; rintro e wM ⟨rfl, hbM, MM, hMM, RM⟩; have hs2 : wF.heap.size ≤ wM.heap.size := Nat.le_trans (by first | exact Nat.le_refl _ | (simp <;> omega)) hbM.size; have hs1 : wr.heap.size ≤ wF.heap.size := (by first | exact hsz | (have h9 := hsz; omega)); have hsz := Nat.le_trans hs1 hs2; have hbX : Below W.heap.size W wM := HF.out.1.trans (Below.trans (by first | exact Below.refl _ _ | exact (Below.refl _ wF).alloc HF.out.1.size _) (hbM.mono HW.out)); have HM := Lib.hid (And.intro hbX (And.intro hMM RM)); clear hbM hMM RM hbX hs2; go_wp2_with fail
              refine hK.out _ _ (fun _ => by (first | exact hsz | exact Nat.le_refl _ | (have h9 := hs1; simp <;> omega))) (fun hh => ?_)
              have hHeld := hh rfl
              clear hK K
              try simp only [Act.put, List.setIfInBounds_toArray, List.set_cons_zero, List.set_cons_succ]
              (refine wpZ_take (i := 8) (oi := { dst := some 29, op := Go.Op.move (Go.Operand.tmp 37), type := 27, pos := "law.go:215", after := #[{ on := 7, ground := Go.Ground.data }], guard := none }) (v := ?_) rfl (by kernel_rfl) (fun _ _ _ h => h) (by assumption) (Or.inl ⟨by rfl, ?_⟩) ?_; rotate_left 1; · ((intro w hSw; (try dsimp only at hSw); go_split_ands; go_simp) <;> (try with_reducible rfl)))
              try simp only [Act.put, List.setIfInBounds_toArray, List.set_cons_zero, List.set_cons_succ]
              (refine wpZ_take (i := 9) (oi := { dst := some 38, op := Go.Op.extract (Go.Operand.tmp 29) 0, type := 3, pos := "law.go:215", after := #[{ on := 8, ground := Go.Ground.data }], guard := none }) (v := ?_) rfl (by kernel_rfl) (fun _ _ _ h => h) (by assumption) (Or.inl ⟨by rfl, ?_⟩) ?_; rotate_left 1; · ((intro w hSw; (try dsimp only at hSw); go_split_ands; go_simp) <;> (try with_reducible rfl)))
              try simp only [Act.put, List.setIfInBounds_toArray, List.set_cons_zero, List.set_cons_succ]
              (refine wpZ_take (i := 10) (oi := { dst := some 39, op := Go.Op.extract (Go.Operand.tmp 29) 1, type := 26, pos := "law.go:215", after := #[{ on := 8, ground := Go.Ground.data }, { on := 11, ground := Go.Ground.gcOnly Go.Departure.lateStores }], guard := none }) (v := ?_) rfl (by kernel_rfl) (fun _ _ _ h => h) (by assumption) (Or.inl ⟨by rfl, ?_⟩) ?_; rotate_left 1; · ((intro w hSw; (try dsimp only at hSw); go_split_ands; go_simp) <;> (try with_reducible rfl)))
              try simp only [Act.put, List.setIfInBounds_toArray, List.set_cons_zero, List.set_cons_succ]
              (refine wpZ_take (i := 11) (oi := { dst := some 8, op := Go.Op.assign (Go.Operand.tmp 38), type := 3, pos := "law.go:215", after := #[{ on := 9, ground := Go.Ground.data }, { on := 7, ground := Go.Ground.chain }, { on := 0, ground := Go.Ground.phase }, { on := 1, ground := Go.Ground.phase }, { on := 2, ground := Go.Ground.phase }, { on := 3, ground := Go.Ground.phase }, { on := 4, ground := Go.Ground.phase }, { on := 5, ground := Go.Ground.phase }, { on := 6, ground := Go.Ground.phase }, { on := 7, ground := Go.Ground.phase }, { on := 8, ground := Go.Ground.phase }, { on := 9, ground := Go.Ground.phase }, { on := 10, ground := Go.Ground.textOnly Go.Departure.lateStores }], guard := none }) (v := ?_) rfl (by kernel_rfl) (fun _ _ _ h => h) (by assumption) (Or.inl ⟨by rfl, ?_⟩) ?_; rotate_left 1; · ((intro w hSw; (try dsimp only at hSw); go_split_ands; go_simp) <;> (try with_reducible rfl)))
              try simp only [Act.put, List.setIfInBounds_toArray, List.set_cons_zero, List.set_cons_succ]
              refine wpZ_one (i := 12) (oi := { dst := some 9, op := Go.Op.assign (Go.Operand.tmp 39), type := 26, pos := "law.go:215", after := #[{ on := 10, ground := Go.Ground.data }, { on := 11, ground := Go.Ground.chain }, { on := 0, ground := Go.Ground.phase }, { on := 1, ground := Go.Ground.phase }, { on := 2, ground := Go.Ground.phase }, { on := 3, ground := Go.Ground.phase }, { on := 4, ground := Go.Ground.phase }, { on := 5, ground := Go.Ground.phase }, { on := 6, ground := Go.Ground.phase }, { on := 7, ground := Go.Ground.phase }, { on := 8, ground := Go.Ground.phase }, { on := 9, ground := Go.Ground.phase }, { on := 10, ground := Go.Ground.phase }, { on := 11, ground := Go.Ground.phase }], guard := none }) rfl (by kernel_rfl) (fun K hK => ?_)
              go_simp
              refine hK.out _ _ (fun h => by simp at h) (fun _ => ?_)
              clear hK K
              try simp only [Act.put, List.setIfInBounds_toArray, List.set_cons_zero, List.set_cons_succ]
              refine wpZ_done (by kernel_rfl) ?_ _
              have t1 : IntKind.i64.wrap 10 = 10 := (by decide); have t2 : IntKind.u64.wrap 10 = 10 := (by decide); have t3 : IntKind.u64.wrap 1 = 1 := (by decide); clear HF HKF; go_wp2_with fail; refine (iv1 _ _ MM wM wM hp _ HM.out.2.1 HM.out.2.2 (Below.refl _ _)).mono ?_; rintro e wI ⟨rfl, hbI, MI, hMI, RI⟩; have HN := Lib.hid (And.intro (HM.out.1.trans (hbI.mono HW.out)) (And.intro hMI RI)); clear hbI hMI RI; go_wp2; go_roundw; (case rel => (first | exact ⟨2, (by have := HLT.out; omega), (by first | rfl | go_num), HN.out.1, MI, HN.out.2⟩ | ((repeat (apply Exists.intro)); refine And.intro ?_ ?_; rotate_left; (focus rfl); (focus exact ⟨2, (by have := HLT.out; omega), (by first | rfl | go_num), HN.out.1, MI, HN.out.2⟩)))); (case measure => (simp [intOf]; (try (have := HLT.out; omega))))
            ·
              have hs1 := hHeld; have hsz := hHeld; (first | (have hcv := convK 98 (by decide) (HKF.out wr.heap.size (Nat.le_refl _) hlt5)) | (have hcv := convN wF 98 98 (by decide)) | (have hcv := convD wr 98 98 (by decide))); go_simp; clear hcv
              refine hK.out _ _ (fun _ => by (first | exact hsz | exact Nat.le_refl _ | (have h9 := hs1; simp <;> omega))) (fun hh => ?_)
              have hHeld := hh rfl
              clear hK K
              try simp only [Act.put, List.setIfInBounds_toArray, List.set_cons_zero, List.set_cons_succ]
              refine wpZ_one (i := 1) (oi := { dst := some 31, op := Go.Op.call { callee := Go.Callee.value (Go.Operand.func 9), args := #[], argTypes := #[] }, type := 40, pos := "law.go:215", after := #[], guard := none }) rfl (by kernel_rfl) (fun K hK => ?_)
              go_simp; have hs1 := hHeld; refine (fx1 _ _ _ wr _ hp HR.out.2.1 HR.out.2.2 (by first | exact ⟨rfl, rfl, rfl, Nat.le_refl _, fun _ _ => rfl⟩ | exact ⟨hcur.1, hcur.2, hcur.3, hcur.4, hcur.5⟩)).mono ?_; rintro e wF ⟨rF, MF, rfl, hbF, hkF, hMF, RF, vF⟩; have hsz : wr.heap.size ≤ wF.heap.size := Nat.le_trans hs1 hbF.size; have HKF := Lib.hid hkF; have hbW : Below W.heap.size W wF := HR.out.1.trans (Below.trans (by first | exact ⟨rfl, rfl, rfl, Nat.le_refl _, fun _ _ => rfl⟩ | exact Below.mono (B := wr.heap.size) ⟨hcur.1, hcur.2, hcur.3, hcur.4, hcur.5⟩ HR.out.1.size) (hbF.mono HW.out)); have HF := Lib.hid (And.intro hbW (And.intro hMF (And.intro RF vF))); clear hbF hbW hMF RF vF hkF hs1 hHeld; go_wp2_with fail
              refine hK.out _ _ (fun _ => by (first | exact hsz | exact Nat.le_refl _ | (have h9 := hs1; simp <;> omega))) (fun hh => ?_)
              have hHeld := hh rfl
              clear hK K
              try simp only [Act.put, List.setIfInBounds_toArray, List.set_cons_zero, List.set_cons_succ]
              refine wpZ_one (i := 7) (oi := { dst := some 37, op := Go.Op.call { callee := Go.Callee.value (Go.Operand.func 8), args := #[Go.Operand.tmp 30, Go.Operand.tmp 31, Go.Operand.tmp 36], argTypes := #[24, 40, 9] }, type := 27, pos := "law.go:215", after := #[{ on := 0, ground := Go.Ground.data }, { on := 1, ground := Go.Ground.data }, { on := 6, ground := Go.Ground.data }, { on := 1, ground := Go.Ground.chain }], guard := none }) rfl (by kernel_rfl) (fun K hK => ?_)
              go_simp; clear hHeld; refine (mk1 _ _ MF wF _ hp rF HF.out.2.1 HF.out.2.2.1 HF.out.2.2.2 (by first | exact Below.refl _ _ | exact (Below.refl wF.heap.size wF).alloc (Nat.le_refl _) _)).mono ?_; rintro e wM ⟨rfl, hbM, MM, hMM, RM⟩; have hs2 : wF.heap.size ≤ wM.heap.size := Nat.le_trans (by first | exact Nat.le_refl _ | (simp <;> omega)) hbM.size; have hs1 : wr.heap.size ≤ wF.heap.size := (by first | exact hsz | (have h9 := hsz; omega)); have hsz := Nat.le_trans hs1 hs2; have hbX : Below W.heap.size W wM := HF.out.1.trans (Below.trans (by first | exact Below.refl _ _ | exact (Below.refl _ wF).alloc HF.out.1.size _) (hbM.mono HW.out)); have HM := Lib.hid (And.intro hbX (And.intro hMM RM)); clear hbM hMM RM hbX hs2; go_wp2_with fail
              refine hK.out _ _ (fun _ => by (first | exact hsz | exact Nat.le_refl _ | (have h9 := hs1; simp <;> omega))) (fun hh => ?_)
              have hHeld := hh rfl
              clear hK K
              try simp only [Act.put, List.setIfInBounds_toArray, List.set_cons_zero, List.set_cons_succ]
              (refine wpZ_take (i := 8) (oi := { dst := some 29, op := Go.Op.move (Go.Operand.tmp 37), type := 27, pos := "law.go:215", after := #[{ on := 7, ground := Go.Ground.data }], guard := none }) (v := ?_) rfl (by kernel_rfl) (fun _ _ _ h => h) (by assumption) (Or.inl ⟨by rfl, ?_⟩) ?_; rotate_left 1; · ((intro w hSw; (try dsimp only at hSw); go_split_ands; go_simp) <;> (try with_reducible rfl)))
              try simp only [Act.put, List.setIfInBounds_toArray, List.set_cons_zero, List.set_cons_succ]
              (refine wpZ_take (i := 9) (oi := { dst := some 38, op := Go.Op.extract (Go.Operand.tmp 29) 0, type := 3, pos := "law.go:215", after := #[{ on := 8, ground := Go.Ground.data }], guard := none }) (v := ?_) rfl (by kernel_rfl) (fun _ _ _ h => h) (by assumption) (Or.inl ⟨by rfl, ?_⟩) ?_; rotate_left 1; · ((intro w hSw; (try dsimp only at hSw); go_split_ands; go_simp) <;> (try with_reducible rfl)))
              try simp only [Act.put, List.setIfInBounds_toArray, List.set_cons_zero, List.set_cons_succ]
              (refine wpZ_take (i := 10) (oi := { dst := some 39, op := Go.Op.extract (Go.Operand.tmp 29) 1, type := 26, pos := "law.go:215", after := #[{ on := 8, ground := Go.Ground.data }, { on := 11, ground := Go.Ground.gcOnly Go.Departure.lateStores }], guard := none }) (v := ?_) rfl (by kernel_rfl) (fun _ _ _ h => h) (by assumption) (Or.inl ⟨by rfl, ?_⟩) ?_; rotate_left 1; · ((intro w hSw; (try dsimp only at hSw); go_split_ands; go_simp) <;> (try with_reducible rfl)))
              try simp only [Act.put, List.setIfInBounds_toArray, List.set_cons_zero, List.set_cons_succ]
              (refine wpZ_take (i := 11) (oi := { dst := some 8, op := Go.Op.assign (Go.Operand.tmp 38), type := 3, pos := "law.go:215", after := #[{ on := 9, ground := Go.Ground.data }, { on := 7, ground := Go.Ground.chain }, { on := 0, ground := Go.Ground.phase }, { on := 1, ground := Go.Ground.phase }, { on := 2, ground := Go.Ground.phase }, { on := 3, ground := Go.Ground.phase }, { on := 4, ground := Go.Ground.phase }, { on := 5, ground := Go.Ground.phase }, { on := 6, ground := Go.Ground.phase }, { on := 7, ground := Go.Ground.phase }, { on := 8, ground := Go.Ground.phase }, { on := 9, ground := Go.Ground.phase }, { on := 10, ground := Go.Ground.textOnly Go.Departure.lateStores }], guard := none }) (v := ?_) rfl (by kernel_rfl) (fun _ _ _ h => h) (by assumption) (Or.inl ⟨by rfl, ?_⟩) ?_; rotate_left 1; · ((intro w hSw; (try dsimp only at hSw); go_split_ands; go_simp) <;> (try with_reducible rfl)))
              try simp only [Act.put, List.setIfInBounds_toArray, List.set_cons_zero, List.set_cons_succ]
              refine wpZ_one (i := 12) (oi := { dst := some 9, op := Go.Op.assign (Go.Operand.tmp 39), type := 26, pos := "law.go:215", after := #[{ on := 10, ground := Go.Ground.data }, { on := 11, ground := Go.Ground.chain }, { on := 0, ground := Go.Ground.phase }, { on := 1, ground := Go.Ground.phase }, { on := 2, ground := Go.Ground.phase }, { on := 3, ground := Go.Ground.phase }, { on := 4, ground := Go.Ground.phase }, { on := 5, ground := Go.Ground.phase }, { on := 6, ground := Go.Ground.phase }, { on := 7, ground := Go.Ground.phase }, { on := 8, ground := Go.Ground.phase }, { on := 9, ground := Go.Ground.phase }, { on := 10, ground := Go.Ground.phase }, { on := 11, ground := Go.Ground.phase }], guard := none }) rfl (by kernel_rfl) (fun K hK => ?_)
              go_simp
              refine hK.out _ _ (fun h => by simp at h) (fun _ => ?_)
              clear hK K
              try simp only [Act.put, List.setIfInBounds_toArray, List.set_cons_zero, List.set_cons_succ]
              refine wpZ_done (by kernel_rfl) ?_ _
              have t1 : IntKind.i64.wrap 10 = 10 := (by decide); have t2 : IntKind.u64.wrap 10 = 10 := (by decide); have t3 : IntKind.u64.wrap 1 = 1 := (by decide); clear HF HKF; go_wp2_with fail; refine (iv1 _ _ MM wM wM hp _ HM.out.2.1 HM.out.2.2 (Below.refl _ _)).mono ?_; rintro e wI ⟨rfl, hbI, MI, hMI, RI⟩; have HN := Lib.hid (And.intro (HM.out.1.trans (hbI.mono HW.out)) (And.intro hMI RI)); clear hbI hMI RI; go_wp2; go_roundw; (case rel => (first | exact ⟨2, (by have := HLT.out; omega), (by first | rfl | go_num), HN.out.1, MI, HN.out.2⟩ | ((repeat (apply Exists.intro)); refine And.intro ?_ ?_; rotate_left; (focus rfl); (focus exact ⟨2, (by have := HLT.out; omega), (by first | rfl | go_num), HN.out.1, MI, HN.out.2⟩)))); (case measure => (simp [intOf]; (try (have := HLT.out; omega))))
        · have HLT := Lib.hid hlt
          have d0 : decide ((2 : Int) < (kk : Int)) = true := decide_eq_true (by omega)
          have d0n : decide (2 < kk) = true := decide_eq_true (by omega)
          have hch : IntKind.u8.wrap (IntKind.i64.wrap 99) = 99 := by decide
          clear hlt hj
          go_upto_region 10 with (fail)
          refine wp_region_z (fun w' => wr.heap.size ≤ w'.heap.size) (fun j => j == 12) (by kernel_rfl) ?_ (fun hHeld => ?_)
          · first | exact hsz | exact Nat.le_refl _ | (have h9 := hs1; simp <;> omega)
          (refine wpZ_take (i := 0) (oi := { dst := some 30, op := Go.Op.move (Go.Operand.tmp 5), type := 24, pos := "law.go:215", after := #[], guard := none }) (v := ?_) rfl (by kernel_rfl) (fun _ _ _ h => h) (by assumption) (Or.inl ⟨by rfl, ?_⟩) ?_; rotate_left 1; · ((intro w hSw; (try dsimp only at hSw); go_split_ands; go_simp) <;> (try with_reducible rfl)))
          try simp only [Act.put, List.setIfInBounds_toArray, List.set_cons_zero, List.set_cons_succ]
          (refine wpZ_take (i := 2) (oi := { dst := some 32, op := Go.Op.move (Go.Operand.tmp 7), type := 3, pos := "law.go:215", after := #[], guard := none }) (v := ?_) rfl (by kernel_rfl) (fun _ _ _ h => h) (by assumption) (Or.inl ⟨by rfl, ?_⟩) ?_; rotate_left 1; · ((intro w hSw; (try dsimp only at hSw); go_split_ands; go_simp) <;> (try with_reducible rfl)))
          try simp only [Act.put, List.setIfInBounds_toArray, List.set_cons_zero, List.set_cons_succ]
          (refine wpZ_take (i := 3) (oi := { dst := some 33, op := Go.Op.binOp Go.BinOp.add 3 (Go.Operand.const (Go.Value.int Go.IntKind.i64 97)) (Go.Operand.tmp 32) 3, type := 3, pos := "law.go:215", after := #[{ on := 2, ground := Go.Ground.data }], guard := none }) (v := ?_) rfl (by kernel_rfl) (fun _ _ _ h => h) (by assumption) (Or.inl ⟨by rfl, ?_⟩) ?_; rotate_left 1; · ((intro w hSw; (try dsimp only at hSw); go_split_ands; go_simp) <;> (try with_reducible rfl)))
          try simp only [Act.put, List.setIfInBounds_toArray, List.set_cons_zero, List.set_cons_succ]
          (refine wpZ_take (i := 4) (oi := { dst := some 34, op := Go.Op.convert 3 5 (Go.Operand.tmp 33), type := 5, pos := "law.go:215", after := #[{ on := 3, ground := Go.Ground.data }], guard := none }) (v := ?_) rfl (by kernel_rfl) (fun _ _ _ h => h) (by assumption) (Or.inl ⟨by rfl, ?_⟩) ?_; rotate_left 1; · ((intro w hSw; (try dsimp only at hSw); go_split_ands; go_simp) <;> (try with_reducible rfl)))
          try simp only [Act.put, List.setIfInBounds_toArray, List.set_cons_zero, List.set_cons_succ]
          refine wpZ_two (i := 1) (j := 5) (oi := { dst := some 31, op := Go.Op.call { callee := Go.Callee.value (Go.Operand.func 9), args := #[], argTypes := #[] }, type := 40, pos := "law.go:215", after := #[], guard := none }) (oj := { dst := some 35, op := Go.Op.buildSlice 22 2 #[(0, Go.Operand.const (Go.Value.int Go.IntKind.u8 114)), (1, Go.Operand.tmp 34)], type := 22, pos := "law.go:215", after := #[{ on := 4, ground := Go.Ground.data }], guard := none }) rfl rfl (by kernel_rfl) (fun K hK => ?_) (fun K hK => ?_)
          ·
            go_simp; have hs1 := hHeld; refine (fx2 _ _ _ wr _ hp HR.out.2.1 HR.out.2.2 (by first | exact ⟨rfl, rfl, rfl, Nat.le_refl _, fun _ _ => rfl⟩ | exact ⟨hcur.1, hcur.2, hcur.3, hcur.4, hcur.5⟩)).mono ?_; rintro e wF ⟨rF, MF, rfl, hbF, hkF, hMF, RF, vF⟩; have hsz : wr.heap.size ≤ wF.heap.size := Nat.le_trans hs1 hbF.size; have HKF := Lib.hid hkF; have hbW : Below W.heap.size W wF := HR.out.1.trans (Below.trans (by first | exact ⟨rfl, rfl, rfl, Nat.le_refl _, fun _ _ => rfl⟩ | exact Below.mono (B := wr.heap.size) ⟨hcur.1, hcur.2, hcur.3, hcur.4, hcur.5⟩ HR.out.1.size) (hbF.mono HW.out)); have HF := Lib.hid (And.intro hbW (And.intro hMF (And.intro RF vF))); clear hbF hbW hMF RF vF hkF hs1 hHeld; go_wp2_with fail
            refine hK.out _ _ (fun _ => by (first | exact hsz | exact Nat.le_refl _ | (have h9 := hs1; simp <;> omega))) (fun hh => ?_)
            have hHeld := hh rfl
            clear hK K
            try simp only [Act.put, List.setIfInBounds_toArray, List.set_cons_zero, List.set_cons_succ]
            refine wpZ_one (i := 5) (oi := { dst := some 35, op := Go.Op.buildSlice 22 2 #[(0, Go.Operand.const (Go.Value.int Go.IntKind.u8 114)), (1, Go.Operand.tmp 34)], type := 22, pos := "law.go:215", after := #[{ on := 4, ground := Go.Ground.data }], guard := none }) rfl (by kernel_rfl) (fun K hK => ?_)
            go_simp; have hs1 := hHeld; have hcur := (Below.refl wr.heap.size wr).alloc (Nat.le_refl _) (.cells #[.int .u8 114, .int .u8 99] 5); have hlt5 : wr.heap.size < (wr.alloc (.cells #[.int .u8 114, .int .u8 99] 5)).drew.heap.size := (by show wr.heap.size < (wr.alloc _).heap.size; simp)
            refine hK.out _ _ (fun _ => by (first | exact hsz | exact Nat.le_refl _ | (have h9 := hs1; simp <;> omega))) (fun hh => ?_)
            have hHeld := hh rfl
            clear hK K
            try simp only [Act.put, List.setIfInBounds_toArray, List.set_cons_zero, List.set_cons_succ]
            refine wpZ_one (i := 6) (oi := { dst := some 36, op := Go.Op.convert 22 9 (Go.Operand.tmp 35), type := 9, pos := "law.go:215", after := #[{ on := 5, ground := Go.Ground.data }], guard := none }) rfl (by kernel_rfl) (fun K hK => ?_)
            have hs1 := hHeld; have hsz := hHeld; (first | (have hcv := convK 99 (by decide) (HKF.out wr.heap.size (Nat.le_refl _) hlt5)) | (have hcv := convN wF 99 99 (by decide)) | (have hcv := convD wr 99 99 (by decide))); go_simp; clear hcv
            refine hK.out _ _ (fun _ => by (first | exact hsz | exact Nat.le_refl _ | (have h9 := hs1; simp <;> omega))) (fun hh => ?_)
            have hHeld := hh rfl
            clear hK K
            try simp only [Act.put, List.setIfInBounds_toArray, List.set_cons_zero, List.set_cons_succ]
            refine wpZ_one (i := 7) (oi := { dst := some 37, op := Go.Op.call { callee := Go.Callee.value (Go.Operand.func 8), args := #[Go.Operand.tmp 30, Go.Operand.tmp 31, Go.Operand.tmp 36], argTypes := #[24, 40, 9] }, type := 27, pos := "law.go:215", after := #[{ on := 0, ground := Go.Ground.data }, { on := 1, ground := Go.Ground.data }, { on := 6, ground := Go.Ground.data }, { on := 1, ground := Go.Ground.chain }], guard := none }) rfl (by kernel_rfl) (fun K hK => ?_)
            go_simp; clear hHeld; refine (mk2 _ _ MF wF _ hp rF HF.out.2.1 HF.out.2.2.1 HF.out.2.2.2 (by first | exact Below.refl _ _ | exact (Below.refl wF.heap.size wF).alloc (Nat.le_refl _) _)).mono ?_; rintro e wM ⟨rfl, hbM, MM, hMM, RM⟩; have hs2 : wF.heap.size ≤ wM.heap.size := Nat.le_trans (by first | exact Nat.le_refl _ | (simp <;> omega)) hbM.size; have hs1 : wr.heap.size ≤ wF.heap.size := (by first | exact hsz | (have h9 := hsz; omega)); have hsz := Nat.le_trans hs1 hs2; have hbX : Below W.heap.size W wM := HF.out.1.trans (Below.trans (by first | exact Below.refl _ _ | exact (Below.refl _ wF).alloc HF.out.1.size _) (hbM.mono HW.out)); have HM := Lib.hid (And.intro hbX (And.intro hMM RM)); clear hbM hMM RM hbX hs2; go_wp2_with fail
            refine hK.out _ _ (fun _ => by (first | exact hsz | exact Nat.le_refl _ | (have h9 := hs1; simp <;> omega))) (fun hh => ?_)
            have hHeld := hh rfl
            clear hK K
            try simp only [Act.put, List.setIfInBounds_toArray, List.set_cons_zero, List.set_cons_succ]
            (refine wpZ_take (i := 8) (oi := { dst := some 29, op := Go.Op.move (Go.Operand.tmp 37), type := 27, pos := "law.go:215", after := #[{ on := 7, ground := Go.Ground.data }], guard := none }) (v := ?_) rfl (by kernel_rfl) (fun _ _ _ h => h) (by assumption) (Or.inl ⟨by rfl, ?_⟩) ?_; rotate_left 1; · ((intro w hSw; (try dsimp only at hSw); go_split_ands; go_simp) <;> (try with_reducible rfl)))
            try simp only [Act.put, List.setIfInBounds_toArray, List.set_cons_zero, List.set_cons_succ]
            (refine wpZ_take (i := 9) (oi := { dst := some 38, op := Go.Op.extract (Go.Operand.tmp 29) 0, type := 3, pos := "law.go:215", after := #[{ on := 8, ground := Go.Ground.data }], guard := none }) (v := ?_) rfl (by kernel_rfl) (fun _ _ _ h => h) (by assumption) (Or.inl ⟨by rfl, ?_⟩) ?_; rotate_left 1; · ((intro w hSw; (try dsimp only at hSw); go_split_ands; go_simp) <;> (try with_reducible rfl)))
            try simp only [Act.put, List.setIfInBounds_toArray, List.set_cons_zero, List.set_cons_succ]
            (refine wpZ_take (i := 10) (oi := { dst := some 39, op := Go.Op.extract (Go.Operand.tmp 29) 1, type := 26, pos := "law.go:215", after := #[{ on := 8, ground := Go.Ground.data }, { on := 11, ground := Go.Ground.gcOnly Go.Departure.lateStores }], guard := none }) (v := ?_) rfl (by kernel_rfl) (fun _ _ _ h => h) (by assumption) (Or.inl ⟨by rfl, ?_⟩) ?_; rotate_left 1; · ((intro w hSw; (try dsimp only at hSw); go_split_ands; go_simp) <;> (try with_reducible rfl)))
            try simp only [Act.put, List.setIfInBounds_toArray, List.set_cons_zero, List.set_cons_succ]
            (refine wpZ_take (i := 11) (oi := { dst := some 8, op := Go.Op.assign (Go.Operand.tmp 38), type := 3, pos := "law.go:215", after := #[{ on := 9, ground := Go.Ground.data }, { on := 7, ground := Go.Ground.chain }, { on := 0, ground := Go.Ground.phase }, { on := 1, ground := Go.Ground.phase }, { on := 2, ground := Go.Ground.phase }, { on := 3, ground := Go.Ground.phase }, { on := 4, ground := Go.Ground.phase }, { on := 5, ground := Go.Ground.phase }, { on := 6, ground := Go.Ground.phase }, { on := 7, ground := Go.Ground.phase }, { on := 8, ground := Go.Ground.phase }, { on := 9, ground := Go.Ground.phase }, { on := 10, ground := Go.Ground.textOnly Go.Departure.lateStores }], guard := none }) (v := ?_) rfl (by kernel_rfl) (fun _ _ _ h => h) (by assumption) (Or.inl ⟨by rfl, ?_⟩) ?_; rotate_left 1; · ((intro w hSw; (try dsimp only at hSw); go_split_ands; go_simp) <;> (try with_reducible rfl)))
            try simp only [Act.put, List.setIfInBounds_toArray, List.set_cons_zero, List.set_cons_succ]
            refine wpZ_one (i := 12) (oi := { dst := some 9, op := Go.Op.assign (Go.Operand.tmp 39), type := 26, pos := "law.go:215", after := #[{ on := 10, ground := Go.Ground.data }, { on := 11, ground := Go.Ground.chain }, { on := 0, ground := Go.Ground.phase }, { on := 1, ground := Go.Ground.phase }, { on := 2, ground := Go.Ground.phase }, { on := 3, ground := Go.Ground.phase }, { on := 4, ground := Go.Ground.phase }, { on := 5, ground := Go.Ground.phase }, { on := 6, ground := Go.Ground.phase }, { on := 7, ground := Go.Ground.phase }, { on := 8, ground := Go.Ground.phase }, { on := 9, ground := Go.Ground.phase }, { on := 10, ground := Go.Ground.phase }, { on := 11, ground := Go.Ground.phase }], guard := none }) rfl (by kernel_rfl) (fun K hK => ?_)
            go_simp
            refine hK.out _ _ (fun h => by simp at h) (fun _ => ?_)
            clear hK K
            try simp only [Act.put, List.setIfInBounds_toArray, List.set_cons_zero, List.set_cons_succ]
            refine wpZ_done (by kernel_rfl) ?_ _
            have t1 : IntKind.i64.wrap 20 = 20 := (by decide); have t2 : IntKind.u64.wrap 20 = 20 := (by decide); have t3 : IntKind.u64.wrap 2 = 2 := (by decide); clear HF HKF; go_wp2_with fail; refine (iv2 _ _ MM wM wM hp _ HM.out.2.1 HM.out.2.2 (Below.refl _ _)).mono ?_; rintro e wI ⟨rfl, hbI, MI, hMI, RI⟩; have HN := Lib.hid (And.intro (HM.out.1.trans (hbI.mono HW.out)) (And.intro hMI RI)); clear hbI hMI RI; go_wp2; go_roundw; (case rel => (first | exact ⟨3, (by have := HLT.out; omega), (by first | rfl | go_num), HN.out.1, MI, HN.out.2⟩ | ((repeat (apply Exists.intro)); refine And.intro ?_ ?_; rotate_left; (focus rfl); (focus exact ⟨3, (by have := HLT.out; omega), (by first | rfl | go_num), HN.out.1, MI, HN.out.2⟩)))); (case measure => (simp [intOf]; (try (have := HLT.out; omega))))
          ·
            go_simp; have hs1 := hHeld; have hcur := (Below.refl wr.heap.size wr).alloc (Nat.le_refl _) (.cells #[.int .u8 114, .int .u8 99] 5); have hlt5 : wr.heap.size < (wr.alloc (.cells #[.int .u8 114, .int .u8 99] 5)).drew.heap.size := (by show wr.heap.size < (wr.alloc _).heap.size; simp)
            refine hK.out _ _ (fun _ => by (first | exact hsz | exact Nat.le_refl _ | (have h9 := hs1; simp <;> omega))) (fun hh => ?_)
            have hHeld := hh rfl
            clear hK K
            try simp only [Act.put, List.setIfInBounds_toArray, List.set_cons_zero, List.set_cons_succ]
            refine wpZ_two (i := 1) (j := 6) (oi := { dst := some 31, op := Go.Op.call { callee := Go.Callee.value (Go.Operand.func 9), args := #[], argTypes := #[] }, type := 40, pos := "law.go:215", after := #[], guard := none }) (oj := { dst := some 36, op := Go.Op.convert 22 9 (Go.Operand.tmp 35), type := 9, pos := "law.go:215", after := #[{ on := 5, ground := Go.Ground.data }], guard := none }) rfl rfl (by kernel_rfl) (fun K hK => ?_) (fun K hK => ?_)
            ·
              go_simp; have hs1 := hHeld; refine (fx2 _ _ _ wr _ hp HR.out.2.1 HR.out.2.2 (by first | exact ⟨rfl, rfl, rfl, Nat.le_refl _, fun _ _ => rfl⟩ | exact ⟨hcur.1, hcur.2, hcur.3, hcur.4, hcur.5⟩)).mono ?_; rintro e wF ⟨rF, MF, rfl, hbF, hkF, hMF, RF, vF⟩; have hsz : wr.heap.size ≤ wF.heap.size := Nat.le_trans hs1 hbF.size; have HKF := Lib.hid hkF; have hbW : Below W.heap.size W wF := HR.out.1.trans (Below.trans (by first | exact ⟨rfl, rfl, rfl, Nat.le_refl _, fun _ _ => rfl⟩ | exact Below.mono (B := wr.heap.size) ⟨hcur.1, hcur.2, hcur.3, hcur.4, hcur.5⟩ HR.out.1.size) (hbF.mono HW.out)); have HF := Lib.hid (And.intro hbW (And.intro hMF (And.intro RF vF))); clear hbF hbW hMF RF vF hkF hs1 hHeld; go_wp2_with fail
              refine hK.out _ _ (fun _ => by (first | exact hsz | exact Nat.le_refl _ | (have h9 := hs1; simp <;> omega))) (fun hh => ?_)
              have hHeld := hh rfl
              clear hK K
              try simp only [Act.put, List.setIfInBounds_toArray, List.set_cons_zero, List.set_cons_succ]
              refine wpZ_one (i := 6) (oi := { dst := some 36, op := Go.Op.convert 22 9 (Go.Operand.tmp 35), type := 9, pos := "law.go:215", after := #[{ on := 5, ground := Go.Ground.data }], guard := none }) rfl (by kernel_rfl) (fun K hK => ?_)
              have hs1 := hHeld; have hsz := hHeld; (first | (have hcv := convK 99 (by decide) (HKF.out wr.heap.size (Nat.le_refl _) hlt5)) | (have hcv := convN wF 99 99 (by decide)) | (have hcv := convD wr 99 99 (by decide))); go_simp; clear hcv
              refine hK.out _ _ (fun _ => by (first | exact hsz | exact Nat.le_refl _ | (have h9 := hs1; simp <;> omega))) (fun hh => ?_)
              have hHeld := hh rfl
              clear hK K
              try simp only [Act.put, List.setIfInBounds_toArray, List.set_cons_zero, List.set_cons_succ]
              refine wpZ_one (i := 7) (oi := { dst := some 37, op := Go.Op.call { callee := Go.Callee.value (Go.Operand.func 8), args := #[Go.Operand.tmp 30, Go.Operand.tmp 31, Go.Operand.tmp 36], argTypes := #[24, 40, 9] }, type := 27, pos := "law.go:215", after := #[{ on := 0, ground := Go.Ground.data }, { on := 1, ground := Go.Ground.data }, { on := 6, ground := Go.Ground.data }, { on := 1, ground := Go.Ground.chain }], guard := none }) rfl (by kernel_rfl) (fun K hK => ?_)
              go_simp; clear hHeld; refine (mk2 _ _ MF wF _ hp rF HF.out.2.1 HF.out.2.2.1 HF.out.2.2.2 (by first | exact Below.refl _ _ | exact (Below.refl wF.heap.size wF).alloc (Nat.le_refl _) _)).mono ?_; rintro e wM ⟨rfl, hbM, MM, hMM, RM⟩; have hs2 : wF.heap.size ≤ wM.heap.size := Nat.le_trans (by first | exact Nat.le_refl _ | (simp <;> omega)) hbM.size; have hs1 : wr.heap.size ≤ wF.heap.size := (by first | exact hsz | (have h9 := hsz; omega)); have hsz := Nat.le_trans hs1 hs2; have hbX : Below W.heap.size W wM := HF.out.1.trans (Below.trans (by first | exact Below.refl _ _ | exact (Below.refl _ wF).alloc HF.out.1.size _) (hbM.mono HW.out)); have HM := Lib.hid (And.intro hbX (And.intro hMM RM)); clear hbM hMM RM hbX hs2; go_wp2_with fail
              refine hK.out _ _ (fun _ => by (first | exact hsz | exact Nat.le_refl _ | (have h9 := hs1; simp <;> omega))) (fun hh => ?_)
              have hHeld := hh rfl
              clear hK K
              try simp only [Act.put, List.setIfInBounds_toArray, List.set_cons_zero, List.set_cons_succ]
              (refine wpZ_take (i := 8) (oi := { dst := some 29, op := Go.Op.move (Go.Operand.tmp 37), type := 27, pos := "law.go:215", after := #[{ on := 7, ground := Go.Ground.data }], guard := none }) (v := ?_) rfl (by kernel_rfl) (fun _ _ _ h => h) (by assumption) (Or.inl ⟨by rfl, ?_⟩) ?_; rotate_left 1; · ((intro w hSw; (try dsimp only at hSw); go_split_ands; go_simp) <;> (try with_reducible rfl)))
              try simp only [Act.put, List.setIfInBounds_toArray, List.set_cons_zero, List.set_cons_succ]
              (refine wpZ_take (i := 9) (oi := { dst := some 38, op := Go.Op.extract (Go.Operand.tmp 29) 0, type := 3, pos := "law.go:215", after := #[{ on := 8, ground := Go.Ground.data }], guard := none }) (v := ?_) rfl (by kernel_rfl) (fun _ _ _ h => h) (by assumption) (Or.inl ⟨by rfl, ?_⟩) ?_; rotate_left 1; · ((intro w hSw; (try dsimp only at hSw); go_split_ands; go_simp) <;> (try with_reducible rfl)))
              try simp only [Act.put, List.setIfInBounds_toArray, List.set_cons_zero, List.set_cons_succ]
              (refine wpZ_take (i := 10) (oi := { dst := some 39, op := Go.Op.extract (Go.Operand.tmp 29) 1, type := 26, pos := "law.go:215", after := #[{ on := 8, ground := Go.Ground.data }, { on := 11, ground := Go.Ground.gcOnly Go.Departure.lateStores }], guard := none }) (v := ?_) rfl (by kernel_rfl) (fun _ _ _ h => h) (by assumption) (Or.inl ⟨by rfl, ?_⟩) ?_; rotate_left 1; · ((intro w hSw; (try dsimp only at hSw); go_split_ands; go_simp) <;> (try with_reducible rfl)))
              try simp only [Act.put, List.setIfInBounds_toArray, List.set_cons_zero, List.set_cons_succ]
              (refine wpZ_take (i := 11) (oi := { dst := some 8, op := Go.Op.assign (Go.Operand.tmp 38), type := 3, pos := "law.go:215", after := #[{ on := 9, ground := Go.Ground.data }, { on := 7, ground := Go.Ground.chain }, { on := 0, ground := Go.Ground.phase }, { on := 1, ground := Go.Ground.phase }, { on := 2, ground := Go.Ground.phase }, { on := 3, ground := Go.Ground.phase }, { on := 4, ground := Go.Ground.phase }, { on := 5, ground := Go.Ground.phase }, { on := 6, ground := Go.Ground.phase }, { on := 7, ground := Go.Ground.phase }, { on := 8, ground := Go.Ground.phase }, { on := 9, ground := Go.Ground.phase }, { on := 10, ground := Go.Ground.textOnly Go.Departure.lateStores }], guard := none }) (v := ?_) rfl (by kernel_rfl) (fun _ _ _ h => h) (by assumption) (Or.inl ⟨by rfl, ?_⟩) ?_; rotate_left 1; · ((intro w hSw; (try dsimp only at hSw); go_split_ands; go_simp) <;> (try with_reducible rfl)))
              try simp only [Act.put, List.setIfInBounds_toArray, List.set_cons_zero, List.set_cons_succ]
              refine wpZ_one (i := 12) (oi := { dst := some 9, op := Go.Op.assign (Go.Operand.tmp 39), type := 26, pos := "law.go:215", after := #[{ on := 10, ground := Go.Ground.data }, { on := 11, ground := Go.Ground.chain }, { on := 0, ground := Go.Ground.phase }, { on := 1, ground := Go.Ground.phase }, { on := 2, ground := Go.Ground.phase }, { on := 3, ground := Go.Ground.phase }, { on := 4, ground := Go.Ground.phase }, { on := 5, ground := Go.Ground.phase }, { on := 6, ground := Go.Ground.phase }, { on := 7, ground := Go.Ground.phase }, { on := 8, ground := Go.Ground.phase }, { on := 9, ground := Go.Ground.phase }, { on := 10, ground := Go.Ground.phase }, { on := 11, ground := Go.Ground.phase }], guard := none }) rfl (by kernel_rfl) (fun K hK => ?_)
              go_simp
              refine hK.out _ _ (fun h => by simp at h) (fun _ => ?_)
              clear hK K
              try simp only [Act.put, List.setIfInBounds_toArray, List.set_cons_zero, List.set_cons_succ]
              refine wpZ_done (by kernel_rfl) ?_ _
              have t1 : IntKind.i64.wrap 20 = 20 := (by decide); have t2 : IntKind.u64.wrap 20 = 20 := (by decide); have t3 : IntKind.u64.wrap 2 = 2 := (by decide); clear HF HKF; go_wp2_with fail; refine (iv2 _ _ MM wM wM hp _ HM.out.2.1 HM.out.2.2 (Below.refl _ _)).mono ?_; rintro e wI ⟨rfl, hbI, MI, hMI, RI⟩; have HN := Lib.hid (And.intro (HM.out.1.trans (hbI.mono HW.out)) (And.intro hMI RI)); clear hbI hMI RI; go_wp2; go_roundw; (case rel => (first | exact ⟨3, (by have := HLT.out; omega), (by first | rfl | go_num), HN.out.1, MI, HN.out.2⟩ | ((repeat (apply Exists.intro)); refine And.intro ?_ ?_; rotate_left; (focus rfl); (focus exact ⟨3, (by have := HLT.out; omega), (by first | rfl | go_num), HN.out.1, MI, HN.out.2⟩)))); (case measure => (simp [intOf]; (try (have := HLT.out; omega))))
            ·
              have hs1 := hHeld; have hsz := hHeld; (first | (have hcv := convK 99 (by decide) (HKF.out wr.heap.size (Nat.le_refl _) hlt5)) | (have hcv := convN wF 99 99 (by decide)) | (have hcv := convD wr 99 99 (by decide))); go_simp; clear hcv
              refine hK.out _ _ (fun _ => by (first | exact hsz | exact Nat.le_refl _ | (have h9 := hs1; simp <;> omega))) (fun hh => ?_)
              have hHeld := hh rfl
              clear hK K
              try simp only [Act.put, List.setIfInBounds_toArray, List.set_cons_zero, List.set_cons_succ]
              refine wpZ_one (i := 1) (oi := { dst := some 31, op := Go.Op.call { callee := Go.Callee.value (Go.Operand.func 9), args := #[], argTypes := #[] }, type := 40, pos := "law.go:215", after := #[], guard := none }) rfl (by kernel_rfl) (fun K hK => ?_)
              go_simp; have hs1 := hHeld; refine (fx2 _ _ _ wr _ hp HR.out.2.1 HR.out.2.2 (by first | exact ⟨rfl, rfl, rfl, Nat.le_refl _, fun _ _ => rfl⟩ | exact ⟨hcur.1, hcur.2, hcur.3, hcur.4, hcur.5⟩)).mono ?_; rintro e wF ⟨rF, MF, rfl, hbF, hkF, hMF, RF, vF⟩; have hsz : wr.heap.size ≤ wF.heap.size := Nat.le_trans hs1 hbF.size; have HKF := Lib.hid hkF; have hbW : Below W.heap.size W wF := HR.out.1.trans (Below.trans (by first | exact ⟨rfl, rfl, rfl, Nat.le_refl _, fun _ _ => rfl⟩ | exact Below.mono (B := wr.heap.size) ⟨hcur.1, hcur.2, hcur.3, hcur.4, hcur.5⟩ HR.out.1.size) (hbF.mono HW.out)); have HF := Lib.hid (And.intro hbW (And.intro hMF (And.intro RF vF))); clear hbF hbW hMF RF vF hkF hs1 hHeld; go_wp2_with fail
              refine hK.out _ _ (fun _ => by (first | exact hsz | exact Nat.le_refl _ | (have h9 := hs1; simp <;> omega))) (fun hh => ?_)
              have hHeld := hh rfl
              clear hK K
              try simp only [Act.put, List.setIfInBounds_toArray, List.set_cons_zero, List.set_cons_succ]
              refine wpZ_one (i := 7) (oi := { dst := some 37, op := Go.Op.call { callee := Go.Callee.value (Go.Operand.func 8), args := #[Go.Operand.tmp 30, Go.Operand.tmp 31, Go.Operand.tmp 36], argTypes := #[24, 40, 9] }, type := 27, pos := "law.go:215", after := #[{ on := 0, ground := Go.Ground.data }, { on := 1, ground := Go.Ground.data }, { on := 6, ground := Go.Ground.data }, { on := 1, ground := Go.Ground.chain }], guard := none }) rfl (by kernel_rfl) (fun K hK => ?_)
              go_simp; clear hHeld; refine (mk2 _ _ MF wF _ hp rF HF.out.2.1 HF.out.2.2.1 HF.out.2.2.2 (by first | exact Below.refl _ _ | exact (Below.refl wF.heap.size wF).alloc (Nat.le_refl _) _)).mono ?_; rintro e wM ⟨rfl, hbM, MM, hMM, RM⟩; have hs2 : wF.heap.size ≤ wM.heap.size := Nat.le_trans (by first | exact Nat.le_refl _ | (simp <;> omega)) hbM.size; have hs1 : wr.heap.size ≤ wF.heap.size := (by first | exact hsz | (have h9 := hsz; omega)); have hsz := Nat.le_trans hs1 hs2; have hbX : Below W.heap.size W wM := HF.out.1.trans (Below.trans (by first | exact Below.refl _ _ | exact (Below.refl _ wF).alloc HF.out.1.size _) (hbM.mono HW.out)); have HM := Lib.hid (And.intro hbX (And.intro hMM RM)); clear hbM hMM RM hbX hs2; go_wp2_with fail
              refine hK.out _ _ (fun _ => by (first | exact hsz | exact Nat.le_refl _ | (have h9 := hs1; simp <;> omega))) (fun hh => ?_)
              have hHeld := hh rfl
              clear hK K
              try simp only [Act.put, List.setIfInBounds_toArray, List.set_cons_zero, List.set_cons_succ]
              (refine wpZ_take (i := 8) (oi := { dst := some 29, op := Go.Op.move (Go.Operand.tmp 37), type := 27, pos := "law.go:215", after := #[{ on := 7, ground := Go.Ground.data }], guard := none }) (v := ?_) rfl (by kernel_rfl) (fun _ _ _ h => h) (by assumption) (Or.inl ⟨by rfl, ?_⟩) ?_; rotate_left 1; · ((intro w hSw; (try dsimp only at hSw); go_split_ands; go_simp) <;> (try with_reducible rfl)))
              try simp only [Act.put, List.setIfInBounds_toArray, List.set_cons_zero, List.set_cons_succ]
              (refine wpZ_take (i := 9) (oi := { dst := some 38, op := Go.Op.extract (Go.Operand.tmp 29) 0, type := 3, pos := "law.go:215", after := #[{ on := 8, ground := Go.Ground.data }], guard := none }) (v := ?_) rfl (by kernel_rfl) (fun _ _ _ h => h) (by assumption) (Or.inl ⟨by rfl, ?_⟩) ?_; rotate_left 1; · ((intro w hSw; (try dsimp only at hSw); go_split_ands; go_simp) <;> (try with_reducible rfl)))
              try simp only [Act.put, List.setIfInBounds_toArray, List.set_cons_zero, List.set_cons_succ]
              (refine wpZ_take (i := 10) (oi := { dst := some 39, op := Go.Op.extract (Go.Operand.tmp 29) 1, type := 26, pos := "law.go:215", after := #[{ on := 8, ground := Go.Ground.data }, { on := 11, ground := Go.Ground.gcOnly Go.Departure.lateStores }], guard := none }) (v := ?_) rfl (by kernel_rfl) (fun _ _ _ h => h) (by assumption) (Or.inl ⟨by rfl, ?_⟩) ?_; rotate_left 1; · ((intro w hSw; (try dsimp only at hSw); go_split_ands; go_simp) <;> (try with_reducible rfl)))
              try simp only [Act.put, List.setIfInBounds_toArray, List.set_cons_zero, List.set_cons_succ]
              (refine wpZ_take (i := 11) (oi := { dst := some 8, op := Go.Op.assign (Go.Operand.tmp 38), type := 3, pos := "law.go:215", after := #[{ on := 9, ground := Go.Ground.data }, { on := 7, ground := Go.Ground.chain }, { on := 0, ground := Go.Ground.phase }, { on := 1, ground := Go.Ground.phase }, { on := 2, ground := Go.Ground.phase }, { on := 3, ground := Go.Ground.phase }, { on := 4, ground := Go.Ground.phase }, { on := 5, ground := Go.Ground.phase }, { on := 6, ground := Go.Ground.phase }, { on := 7, ground := Go.Ground.phase }, { on := 8, ground := Go.Ground.phase }, { on := 9, ground := Go.Ground.phase }, { on := 10, ground := Go.Ground.textOnly Go.Departure.lateStores }], guard := none }) (v := ?_) rfl (by kernel_rfl) (fun _ _ _ h => h) (by assumption) (Or.inl ⟨by rfl, ?_⟩) ?_; rotate_left 1; · ((intro w hSw; (try dsimp only at hSw); go_split_ands; go_simp) <;> (try with_reducible rfl)))
              try simp only [Act.put, List.setIfInBounds_toArray, List.set_cons_zero, List.set_cons_succ]
              refine wpZ_one (i := 12) (oi := { dst := some 9, op := Go.Op.assign (Go.Operand.tmp 39), type := 26, pos := "law.go:215", after := #[{ on := 10, ground := Go.Ground.data }, { on := 11, ground := Go.Ground.chain }, { on := 0, ground := Go.Ground.phase }, { on := 1, ground := Go.Ground.phase }, { on := 2, ground := Go.Ground.phase }, { on := 3, ground := Go.Ground.phase }, { on := 4, ground := Go.Ground.phase }, { on := 5, ground := Go.Ground.phase }, { on := 6, ground := Go.Ground.phase }, { on := 7, ground := Go.Ground.phase }, { on := 8, ground := Go.Ground.phase }, { on := 9, ground := Go.Ground.phase }, { on := 10, ground := Go.Ground.phase }, { on := 11, ground := Go.Ground.phase }], guard := none }) rfl (by kernel_rfl) (fun K hK => ?_)
              go_simp
              refine hK.out _ _ (fun h => by simp at h) (fun _ => ?_)
              clear hK K
              try simp only [Act.put, List.setIfInBounds_toArray, List.set_cons_zero, List.set_cons_succ]
              refine wpZ_done (by kernel_rfl) ?_ _
              have t1 : IntKind.i64.wrap 20 = 20 := (by decide); have t2 : IntKind.u64.wrap 20 = 20 := (by decide); have t3 : IntKind.u64.wrap 2 = 2 := (by decide); clear HF HKF; go_wp2_with fail; refine (iv2 _ _ MM wM wM hp _ HM.out.2.1 HM.out.2.2 (Below.refl _ _)).mono ?_; rintro e wI ⟨rfl, hbI, MI, hMI, RI⟩; have HN := Lib.hid (And.intro (HM.out.1.trans (hbI.mono HW.out)) (And.intro hMI RI)); clear hbI hMI RI; go_wp2; go_roundw; (case rel => (first | exact ⟨3, (by have := HLT.out; omega), (by first | rfl | go_num), HN.out.1, MI, HN.out.2⟩ | ((repeat (apply Exists.intro)); refine And.intro ?_ ?_; rotate_left; (focus rfl); (focus exact ⟨3, (by have := HLT.out; omega), (by first | rfl | go_num), HN.out.1, MI, HN.out.2⟩)))); (case measure => (simp [intOf]; (try (have := HLT.out; omega))))
        · have HLT := Lib.hid hlt
          have d0 : decide ((3 : Int) < (kk : Int)) = true := decide_eq_true (by omega)
          have d0n : decide (3 < kk) = true := decide_eq_true (by omega)
          have hch : IntKind.u8.wrap (IntKind.i64.wrap 100) = 100 := by decide
          clear hlt hj
          go_upto_region 10 with (fail)
          refine wp_region_z (fun w' => wr.heap.size ≤ w'.heap.size) (fun j => j == 12) (by kernel_rfl) ?_ (fun hHeld => ?_)
          · first | exact hsz | exact Nat.le_refl _ | (have h9 := hs1; simp <;> omega)
          (refine wpZ_take (i := 0) (oi := { dst := some 30, op := Go.Op.move (Go.Operand.tmp 5), type := 24, pos := "law.go:215", after := #[], guard := none }) (v := ?_) rfl (by kernel_rfl) (fun _ _ _ h => h) (by assumption) (Or.inl ⟨by rfl, ?_⟩) ?_; rotate_left 1; · ((intro w hSw; (try dsimp only at hSw); go_split_ands; go_simp) <;> (try with_reducible rfl)))
          try simp only [Act.put, List.setIfInBounds_toArray, List.set_cons_zero, List.set_cons_succ]
          (refine wpZ_take (i := 2) (oi := { dst := some 32, op := Go.Op.move (Go.Operand.tmp 7), type := 3, pos := "law.go:215", after := #[], guard := none }) (v := ?_) rfl (by kernel_rfl) (fun _ _ _ h => h) (by assumption) (Or.inl ⟨by rfl, ?_⟩) ?_; rotate_left 1; · ((intro w hSw; (try dsimp only at hSw); go_split_ands; go_simp) <;> (try with_reducible rfl)))
          try simp only [Act.put, List.setIfInBounds_toArray, List.set_cons_zero, List.set_cons_succ]
          (refine wpZ_take (i := 3) (oi := { dst := some 33, op := Go.Op.binOp Go.BinOp.add 3 (Go.Operand.const (Go.Value.int Go.IntKind.i64 97)) (Go.Operand.tmp 32) 3, type := 3, pos := "law.go:215", after := #[{ on := 2, ground := Go.Ground.data }], guard := none }) (v := ?_) rfl (by kernel_rfl) (fun _ _ _ h => h) (by assumption) (Or.inl ⟨by rfl, ?_⟩) ?_; rotate_left 1; · ((intro w hSw; (try dsimp only at hSw); go_split_ands; go_simp) <;> (try with_reducible rfl)))
          try simp only [Act.put, List.setIfInBounds_toArray, List.set_cons_zero, List.set_cons_succ]
          (refine wpZ_take (i := 4) (oi := { dst := some 34, op := Go.Op.convert 3 5 (Go.Operand.tmp 33), type := 5, pos := "law.go:215", after := #[{ on := 3, ground := Go.Ground.data }], guard := none }) (v := ?_) rfl (by kernel_rfl) (fun _ _ _ h => h) (by assumption) (Or.inl ⟨by rfl, ?_⟩) ?_; rotate_left 1; · ((intro w hSw; (try dsimp only at hSw); go_split_ands; go_simp) <;> (try with_reducible rfl)))
          try simp only [Act.put, List.setIfInBounds_toArray, List.set_cons_zero, List.set_cons_succ]
          refine wpZ_two (i := 1) (j := 5) (oi := { dst := some 31, op := Go.Op.call { callee := Go.Callee.value (Go.Operand.func 9), args := #[], argTypes := #[] }, type := 40, pos := "law.go:215", after := #[], guard := none }) (oj := { dst := some 35, op := Go.Op.buildSlice 22 2 #[(0, Go.Operand.const (Go.Value.int Go.IntKind.u8 114)), (1, Go.Operand.tmp 34)], type := 22, pos := "law.go:215", after := #[{ on := 4, ground := Go.Ground.data }], guard := none }) rfl rfl (by kernel_rfl) (fun K hK => ?_) (fun K hK => ?_)
          ·
            go_simp; have hs1 := hHeld; refine (fx3 _ _ _ wr _ hp HR.out.2.1 HR.out.2.2 (by first | exact ⟨rfl, rfl, rfl, Nat.le_refl _, fun _ _ => rfl⟩ | exact ⟨hcur.1, hcur.2, hcur.3, hcur.4, hcur.5⟩)).mono ?_; rintro e wF ⟨rF, MF, rfl, hbF, hkF, hMF, RF, vF⟩; have hsz : wr.heap.size ≤ wF.heap.size := Nat.le_trans hs1 hbF.size; have HKF := Lib.hid hkF; have hbW : Below W.heap.size W wF := HR.out.1.trans (Below.trans (by first | exact ⟨rfl, rfl, rfl, Nat.le_refl _, fun _ _ => rfl⟩ | exact Below.mono (B := wr.heap.size) ⟨hcur.1, hcur.2, hcur.3, hcur.4, hcur.5⟩ HR.out.1.size) (hbF.mono HW.out)); have HF := Lib.hid (And.intro hbW (And.intro hMF (And.intro RF vF))); clear hbF hbW hMF RF vF hkF hs1 hHeld; go_wp2_with fail
            refine hK.out _ _ (fun _ => by (first | exact hsz | exact Nat.le_refl _ | (have h9 := hs1; simp <;> omega))) (fun hh => ?_)
            have hHeld := hh rfl
            clear hK K
            try simp only [Act.put, List.setIfInBounds_toArray, List.set_cons_zero, List.set_cons_succ]
            refine wpZ_one (i := 5) (oi := { dst := some 35, op := Go.Op.buildSlice 22 2 #[(0, Go.Operand.const (Go.Value.int Go.IntKind.u8 114)), (1, Go.Operand.tmp 34)], type := 22, pos := "law.go:215", after := #[{ on := 4, ground := Go.Ground.data }], guard := none }) rfl (by kernel_rfl) (fun K hK => ?_)
            go_simp; have hs1 := hHeld; have hcur := (Below.refl wr.heap.size wr).alloc (Nat.le_refl _) (.cells #[.int .u8 114, .int .u8 100] 5); have hlt5 : wr.heap.size < (wr.alloc (.cells #[.int .u8 114, .int .u8 100] 5)).drew.heap.size := (by show wr.heap.size < (wr.alloc _).heap.size; simp)
            refine hK.out _ _ (fun _ => by (first | exact hsz | exact Nat.le_refl _ | (have h9 := hs1; simp <;> omega))) (fun hh => ?_)
            have hHeld := hh rfl
            clear hK K
            try simp only [Act.put, List.setIfInBounds_toArray, List.set_cons_zero, List.set_cons_succ]
            refine wpZ_one (i := 6) (oi := { dst := some 36, op := Go.Op.convert 22 9 (Go.Operand.tmp 35), type := 9, pos := "law.go:215", after := #[{ on := 5, ground := Go.Ground.data }], guard := none }) rfl (by kernel_rfl) (fun K hK => ?_)
            have hs1 := hHeld; have hsz := hHeld; (first | (have hcv := convK 100 (by decide) (HKF.out wr.heap.size (Nat.le_refl _) hlt5)) | (have hcv := convN wF 100 100 (by decide)) | (have hcv := convD wr 100 100 (by decide))); go_simp; clear hcv
            refine hK.out _ _ (fun _ => by (first | exact hsz | exact Nat.le_refl _ | (have h9 := hs1; simp <;> omega))) (fun hh => ?_)
            have hHeld := hh rfl
            clear hK K
            try simp only [Act.put, List.setIfInBounds_toArray, List.set_cons_zero, List.set_cons_succ]
            refine wpZ_one (i := 7) (oi := { dst := some 37, op := Go.Op.call { callee := Go.Callee.value (Go.Operand.func 8), args := #[Go.Operand.tmp 30, Go.Operand.tmp 31, Go.Operand.tmp 36], argTypes := #[24, 40, 9] }, type := 27, pos := "law.go:215", after := #[{ on := 0, ground := Go.Ground.data }, { on := 1, ground := Go.Ground.data }, { on := 6, ground := Go.Ground.data }, { on := 1, ground := Go.Ground.chain }], guard := none }) rfl (by kernel_rfl) (fun K hK => ?_)
            go_simp; clear hHeld; refine (mk3 _ _ MF wF _ hp rF HF.out.2.1 HF.out.2.2.1 HF.out.2.2.2 (by first | exact Below.refl _ _ | exact (Below.refl wF.heap.size wF).alloc (Nat.le_refl _) _)).mono ?_; rintro e wM ⟨rfl, hbM, MM, hMM, RM⟩; have hs2 : wF.heap.size ≤ wM.heap.size := Nat.le_trans (by first | exact Nat.le_refl _ | (simp <;> omega)) hbM.size; have hs1 : wr.heap.size ≤ wF.heap.size := (by first | exact hsz | (have h9 := hsz; omega)); have hsz := Nat.le_trans hs1 hs2; have hbX : Below W.heap.size W wM := HF.out.1.trans (Below.trans (by first | exact Below.refl _ _ | exact (Below.refl _ wF).alloc HF.out.1.size _) (hbM.mono HW.out)); have HM := Lib.hid (And.intro hbX (And.intro hMM RM)); clear hbM hMM RM hbX hs2; go_wp2_with fail
            refine hK.out _ _ (fun _ => by (first | exact hsz | exact Nat.le_refl _ | (have h9 := hs1; simp <;> omega))) (fun hh => ?_)
            have hHeld := hh rfl
            clear hK K
            try simp only [Act.put, List.setIfInBounds_toArray, List.set_cons_zero, List.set_cons_succ]
            (refine wpZ_take (i := 8) (oi := { dst := some 29, op := Go.Op.move (Go.Operand.tmp 37), type := 27, pos := "law.go:215", after := #[{ on := 7, ground := Go.Ground.data }], guard := none }) (v := ?_) rfl (by kernel_rfl) (fun _ _ _ h => h) (by assumption) (Or.inl ⟨by rfl, ?_⟩) ?_; rotate_left 1; · ((intro w hSw; (try dsimp only at hSw); go_split_ands; go_simp) <;> (try with_reducible rfl)))
            try simp only [Act.put, List.setIfInBounds_toArray, List.set_cons_zero, List.set_cons_succ]
            (refine wpZ_take (i := 9) (oi := { dst := some 38, op := Go.Op.extract (Go.Operand.tmp 29) 0, type := 3, pos := "law.go:215", after := #[{ on := 8, ground := Go.Ground.data }], guard := none }) (v := ?_) rfl (by kernel_rfl) (fun _ _ _ h => h) (by assumption) (Or.inl ⟨by rfl, ?_⟩) ?_; rotate_left 1; · ((intro w hSw; (try dsimp only at hSw); go_split_ands; go_simp) <;> (try with_reducible rfl)))
            try simp only [Act.put, List.setIfInBounds_toArray, List.set_cons_zero, List.set_cons_succ]
            (refine wpZ_take (i := 10) (oi := { dst := some 39, op := Go.Op.extract (Go.Operand.tmp 29) 1, type := 26, pos := "law.go:215", after := #[{ on := 8, ground := Go.Ground.data }, { on := 11, ground := Go.Ground.gcOnly Go.Departure.lateStores }], guard := none }) (v := ?_) rfl (by kernel_rfl) (fun _ _ _ h => h) (by assumption) (Or.inl ⟨by rfl, ?_⟩) ?_; rotate_left 1; · ((intro w hSw; (try dsimp only at hSw); go_split_ands; go_simp) <;> (try with_reducible rfl)))
            try simp only [Act.put, List.setIfInBounds_toArray, List.set_cons_zero, List.set_cons_succ]
            (refine wpZ_take (i := 11) (oi := { dst := some 8, op := Go.Op.assign (Go.Operand.tmp 38), type := 3, pos := "law.go:215", after := #[{ on := 9, ground := Go.Ground.data }, { on := 7, ground := Go.Ground.chain }, { on := 0, ground := Go.Ground.phase }, { on := 1, ground := Go.Ground.phase }, { on := 2, ground := Go.Ground.phase }, { on := 3, ground := Go.Ground.phase }, { on := 4, ground := Go.Ground.phase }, { on := 5, ground := Go.Ground.phase }, { on := 6, ground := Go.Ground.phase }, { on := 7, ground := Go.Ground.phase }, { on := 8, ground := Go.Ground.phase }, { on := 9, ground := Go.Ground.phase }, { on := 10, ground := Go.Ground.textOnly Go.Departure.lateStores }], guard := none }) (v := ?_) rfl (by kernel_rfl) (fun _ _ _ h => h) (by assumption) (Or.inl ⟨by rfl, ?_⟩) ?_; rotate_left 1; · ((intro w hSw; (try dsimp only at hSw); go_split_ands; go_simp) <;> (try with_reducible rfl)))
            try simp only [Act.put, List.setIfInBounds_toArray, List.set_cons_zero, List.set_cons_succ]
            refine wpZ_one (i := 12) (oi := { dst := some 9, op := Go.Op.assign (Go.Operand.tmp 39), type := 26, pos := "law.go:215", after := #[{ on := 10, ground := Go.Ground.data }, { on := 11, ground := Go.Ground.chain }, { on := 0, ground := Go.Ground.phase }, { on := 1, ground := Go.Ground.phase }, { on := 2, ground := Go.Ground.phase }, { on := 3, ground := Go.Ground.phase }, { on := 4, ground := Go.Ground.phase }, { on := 5, ground := Go.Ground.phase }, { on := 6, ground := Go.Ground.phase }, { on := 7, ground := Go.Ground.phase }, { on := 8, ground := Go.Ground.phase }, { on := 9, ground := Go.Ground.phase }, { on := 10, ground := Go.Ground.phase }, { on := 11, ground := Go.Ground.phase }], guard := none }) rfl (by kernel_rfl) (fun K hK => ?_)
            go_simp
            refine hK.out _ _ (fun h => by simp at h) (fun _ => ?_)
            clear hK K
            try simp only [Act.put, List.setIfInBounds_toArray, List.set_cons_zero, List.set_cons_succ]
            refine wpZ_done (by kernel_rfl) ?_ _
            have t1 : IntKind.i64.wrap 30 = 30 := (by decide); have t2 : IntKind.u64.wrap 30 = 30 := (by decide); have t3 : IntKind.u64.wrap 3 = 3 := (by decide); clear HF HKF; go_wp2_with fail; refine (iv3 _ _ MM wM wM hp _ HM.out.2.1 HM.out.2.2 (Below.refl _ _)).mono ?_; rintro e wI ⟨rfl, hbI, MI, hMI, RI⟩; have HN := Lib.hid (And.intro (HM.out.1.trans (hbI.mono HW.out)) (And.intro hMI RI)); clear hbI hMI RI; go_wp2; go_roundw; (case rel => (first | exact ⟨4, (by have := HLT.out; omega), (by first | rfl | go_num), HN.out.1, MI, HN.out.2⟩ | ((repeat (apply Exists.intro)); refine And.intro ?_ ?_; rotate_left; (focus rfl); (focus exact ⟨4, (by have := HLT.out; omega), (by first | rfl | go_num), HN.out.1, MI, HN.out.2⟩)))); (case measure => (simp [intOf]; (try (have := HLT.out; omega))))
          ·
            go_simp; have hs1 := hHeld; have hcur := (Below.refl wr.heap.size wr).alloc (Nat.le_refl _) (.cells #[.int .u8 114, .int .u8 100] 5); have hlt5 : wr.heap.size < (wr.alloc (.cells #[.int .u8 114, .int .u8 100] 5)).drew.heap.size := (by show wr.heap.size < (wr.alloc _).heap.size; simp)
            refine hK.out _ _ (fun _ => by (first | exact hsz | exact Nat.le_refl _ | (have h9 := hs1; simp <;> omega))) (fun hh => ?_)
            have hHeld := hh rfl
            clear hK K
            try simp only [Act.put, List.setIfInBounds_toArray, List.set_cons_zero, List.set_cons_succ]
            refine wpZ_two (i := 1) (j := 6) (oi := { dst := some 31, op := Go.Op.call { callee := Go.Callee.value (Go.Operand.func 9), args := #[], argTypes := #[] }, type := 40, pos := "law.go:215", after := #[], guard := none }) (oj := { dst := some 36, op := Go.Op.convert 22 9 (Go.Operand.tmp 35), type := 9, pos := "law.go:215", after := #[{ on := 5, ground := Go.Ground.data }], guard := none }) rfl rfl (by kernel_rfl) (fun K hK => ?_) (fun K hK => ?_)
            ·
              go_simp; have hs1 := hHeld; refine (fx3 _ _ _ wr _ hp HR.out.2.1 HR.out.2.2 (by first | exact ⟨rfl, rfl, rfl, Nat.le_refl _, fun _ _ => rfl⟩ | exact ⟨hcur.1, hcur.2, hcur.3, hcur.4, hcur.5⟩)).mono ?_; rintro e wF ⟨rF, MF, rfl, hbF, hkF, hMF, RF, vF⟩; have hsz : wr.heap.size ≤ wF.heap.size := Nat.le_trans hs1 hbF.size; have HKF := Lib.hid hkF; have hbW : Below W.heap.size W wF := HR.out.1.trans (Below.trans (by first | exact ⟨rfl, rfl, rfl, Nat.le_refl _, fun _ _ => rfl⟩ | exact Below.mono (B := wr.heap.size) ⟨hcur.1, hcur.2, hcur.3, hcur.4, hcur.5⟩ HR.out.1.size) (hbF.mono HW.out)); have HF := Lib.hid (And.intro hbW (And.intro hMF (And.intro RF vF))); clear hbF hbW hMF RF vF hkF hs1 hHeld; go_wp2_with fail
              refine hK.out _ _ (fun _ => by (first | exact hsz | exact Nat.le_refl _ | (have h9 := hs1; simp <;> omega))) (fun hh => ?_)
              have hHeld := hh rfl
              clear hK K
              try simp only [Act.put, List.setIfInBounds_toArray, List.set_cons_zero, List.set_cons_succ]
              refine wpZ_one (i := 6) (oi := { dst := some 36, op := Go.Op.convert 22 9 (Go.Operand.tmp 35), type := 9, pos := "law.go:215", after := #[{ on := 5, ground := Go.Ground.data }], guard := none }) rfl (by kernel_rfl) (fun K hK => ?_)
              have hs1 := hHeld; have hsz := hHeld; (first | (have hcv := convK 100 (by decide) (HKF.out wr.heap.size (Nat.le_refl _) hlt5)) | (have hcv := convN wF 100 100 (by decide)) | (have hcv := convD wr 100 100 (by decide))); go_simp; clear hcv
              refine hK.out _ _ (fun _ => by (first | exact hsz | exact Nat.le_refl _ | (have h9 := hs1; simp <;> omega))) (fun hh => ?_)
              have hHeld := hh rfl
              clear hK K
              try simp only [Act.put, List.setIfInBounds_toArray, List.set_cons_zero, List.set_cons_succ]
              refine wpZ_one (i := 7) (oi := { dst := some 37, op := Go.Op.call { callee := Go.Callee.value (Go.Operand.func 8), args := #[Go.Operand.tmp 30, Go.Operand.tmp 31, Go.Operand.tmp 36], argTypes := #[24, 40, 9] }, type := 27, pos := "law.go:215", after := #[{ on := 0, ground := Go.Ground.data }, { on := 1, ground := Go.Ground.data }, { on := 6, ground := Go.Ground.data }, { on := 1, ground := Go.Ground.chain }], guard := none }) rfl (by kernel_rfl) (fun K hK => ?_)
              go_simp; clear hHeld; refine (mk3 _ _ MF wF _ hp rF HF.out.2.1 HF.out.2.2.1 HF.out.2.2.2 (by first | exact Below.refl _ _ | exact (Below.refl wF.heap.size wF).alloc (Nat.le_refl _) _)).mono ?_; rintro e wM ⟨rfl, hbM, MM, hMM, RM⟩; have hs2 : wF.heap.size ≤ wM.heap.size := Nat.le_trans (by first | exact Nat.le_refl _ | (simp <;> omega)) hbM.size; have hs1 : wr.heap.size ≤ wF.heap.size := (by first | exact hsz | (have h9 := hsz; omega)); have hsz := Nat.le_trans hs1 hs2; have hbX : Below W.heap.size W wM := HF.out.1.trans (Below.trans (by first | exact Below.refl _ _ | exact (Below.refl _ wF).alloc HF.out.1.size _) (hbM.mono HW.out)); have HM := Lib.hid (And.intro hbX (And.intro hMM RM)); clear hbM hMM RM hbX hs2; go_wp2_with fail
              refine hK.out _ _ (fun _ => by (first | exact hsz | exact Nat.le_refl _ | (have h9 := hs1; simp <;> omega))) (fun hh => ?_)
              have hHeld := hh rfl
              clear hK K
              try simp only [Act.put, List.setIfInBounds_toArray, List.set_cons_zero, List.set_cons_succ]
              (refine wpZ_take (i := 8) (oi := { dst := some 29, op := Go.Op.move (Go.Operand.tmp 37), type := 27, pos := "law.go:215", after := #[{ on := 7, ground := Go.Ground.data }], guard := none }) (v := ?_) rfl (by kernel_rfl) (fun _ _ _ h => h) (by assumption) (Or.inl ⟨by rfl, ?_⟩) ?_; rotate_left 1; · ((intro w hSw; (try dsimp only at hSw); go_split_ands; go_simp) <;> (try with_reducible rfl)))
              try simp only [Act.put, List.setIfInBounds_toArray, List.set_cons_zero, List.set_cons_succ]
              (refine wpZ_take (i := 9) (oi := { dst := some 38, op := Go.Op.extract (Go.Operand.tmp 29) 0, type := 3, pos := "law.go:215", after := #[{ on := 8, ground := Go.Ground.data }], guard := none }) (v := ?_) rfl (by kernel_rfl) (fun _ _ _ h => h) (by assumption) (Or.inl ⟨by rfl, ?_⟩) ?_; rotate_left 1; · ((intro w hSw; (try dsimp only at hSw); go_split_ands; go_simp) <;> (try with_reducible rfl)))
              try simp only [Act.put, List.setIfInBounds_toArray, List.set_cons_zero, List.set_cons_succ]
              (refine wpZ_take (i := 10) (oi := { dst := some 39, op := Go.Op.extract (Go.Operand.tmp 29) 1, type := 26, pos := "law.go:215", after := #[{ on := 8, ground := Go.Ground.data }, { on := 11, ground := Go.Ground.gcOnly Go.Departure.lateStores }], guard := none }) (v := ?_) rfl (by kernel_rfl) (fun _ _ _ h => h) (by assumption) (Or.inl ⟨by rfl, ?_⟩) ?_; rotate_left 1; · ((intro w hSw; (try dsimp only at hSw); go_split_ands; go_simp) <;> (try with_reducible rfl)))
              try simp only [Act.put, List.setIfInBounds_toArray, List.set_cons_zero, List.set_cons_succ]
              (refine wpZ_take (i := 11) (oi := { dst := some 8, op := Go.Op.assign (Go.Operand.tmp 38), type := 3, pos := "law.go:215", after := #[{ on := 9, ground := Go.Ground.data }, { on := 7, ground := Go.Ground.chain }, { on := 0, ground := Go.Ground.phase }, { on := 1, ground := Go.Ground.phase }, { on := 2, ground := Go.Ground.phase }, { on := 3, ground := Go.Ground.phase }, { on := 4, ground := Go.Ground.phase }, { on := 5, ground := Go.Ground.phase }, { on := 6, ground := Go.Ground.phase }, { on := 7, ground := Go.Ground.phase }, { on := 8, ground := Go.Ground.phase }, { on := 9, ground := Go.Ground.phase }, { on := 10, ground := Go.Ground.textOnly Go.Departure.lateStores }], guard := none }) (v := ?_) rfl (by kernel_rfl) (fun _ _ _ h => h) (by assumption) (Or.inl ⟨by rfl, ?_⟩) ?_; rotate_left 1; · ((intro w hSw; (try dsimp only at hSw); go_split_ands; go_simp) <;> (try with_reducible rfl)))
              try simp only [Act.put, List.setIfInBounds_toArray, List.set_cons_zero, List.set_cons_succ]
              refine wpZ_one (i := 12) (oi := { dst := some 9, op := Go.Op.assign (Go.Operand.tmp 39), type := 26, pos := "law.go:215", after := #[{ on := 10, ground := Go.Ground.data }, { on := 11, ground := Go.Ground.chain }, { on := 0, ground := Go.Ground.phase }, { on := 1, ground := Go.Ground.phase }, { on := 2, ground := Go.Ground.phase }, { on := 3, ground := Go.Ground.phase }, { on := 4, ground := Go.Ground.phase }, { on := 5, ground := Go.Ground.phase }, { on := 6, ground := Go.Ground.phase }, { on := 7, ground := Go.Ground.phase }, { on := 8, ground := Go.Ground.phase }, { on := 9, ground := Go.Ground.phase }, { on := 10, ground := Go.Ground.phase }, { on := 11, ground := Go.Ground.phase }], guard := none }) rfl (by kernel_rfl) (fun K hK => ?_)
              go_simp
              refine hK.out _ _ (fun h => by simp at h) (fun _ => ?_)
              clear hK K
              try simp only [Act.put, List.setIfInBounds_toArray, List.set_cons_zero, List.set_cons_succ]
              refine wpZ_done (by kernel_rfl) ?_ _
              have t1 : IntKind.i64.wrap 30 = 30 := (by decide); have t2 : IntKind.u64.wrap 30 = 30 := (by decide); have t3 : IntKind.u64.wrap 3 = 3 := (by decide); clear HF HKF; go_wp2_with fail; refine (iv3 _ _ MM wM wM hp _ HM.out.2.1 HM.out.2.2 (Below.refl _ _)).mono ?_; rintro e wI ⟨rfl, hbI, MI, hMI, RI⟩; have HN := Lib.hid (And.intro (HM.out.1.trans (hbI.mono HW.out)) (And.intro hMI RI)); clear hbI hMI RI; go_wp2; go_roundw; (case rel => (first | exact ⟨4, (by have := HLT.out; omega), (by first | rfl | go_num), HN.out.1, MI, HN.out.2⟩ | ((repeat (apply Exists.intro)); refine And.intro ?_ ?_; rotate_left; (focus rfl); (focus exact ⟨4, (by have := HLT.out; omega), (by first | rfl | go_num), HN.out.1, MI, HN.out.2⟩)))); (case measure => (simp [intOf]; (try (have := HLT.out; omega))))
            ·
              have hs1 := hHeld; have hsz := hHeld; (first | (have hcv := convK 100 (by decide) (HKF.out wr.heap.size (Nat.le_refl _) hlt5)) | (have hcv := convN wF 100 100 (by decide)) | (have hcv := convD wr 100 100 (by decide))); go_simp; clear hcv
              refine hK.out _ _ (fun _ => by (first | exact hsz | exact Nat.le_refl _ | (have h9 := hs1; simp <;> omega))) (fun hh => ?_)
              have hHeld := hh rfl
              clear hK K
              try simp only [Act.put, List.setIfInBounds_toArray, List.set_cons_zero, List.set_cons_succ]
              refine wpZ_one (i := 1) (oi := { dst := some 31, op := Go.Op.call { callee := Go.Callee.value (Go.Operand.func 9), args := #[], argTypes := #[] }, type := 40, pos := "law.go:215", after := #[], guard := none }) rfl (by kernel_rfl) (fun K hK => ?_)
              go_simp; have hs1 := hHeld; refine (fx3 _ _ _ wr _ hp HR.out.2.1 HR.out.2.2 (by first | exact ⟨rfl, rfl, rfl, Nat.le_refl _, fun _ _ => rfl⟩ | exact ⟨hcur.1, hcur.2, hcur.3, hcur.4, hcur.5⟩)).mono ?_; rintro e wF ⟨rF, MF, rfl, hbF, hkF, hMF, RF, vF⟩; have hsz : wr.heap.size ≤ wF.heap.size := Nat.le_trans hs1 hbF.size; have HKF := Lib.hid hkF; have hbW : Below W.heap.size W wF := HR.out.1.trans (Below.trans (by first | exact ⟨rfl, rfl, rfl, Nat.le_refl _, fun _ _ => rfl⟩ | exact Below.mono (B := wr.heap.size) ⟨hcur.1, hcur.2, hcur.3, hcur.4, hcur.5⟩ HR.out.1.size) (hbF.mono HW.out)); have HF := Lib.hid (And.intro hbW (And.intro hMF (And.intro RF vF))); clear hbF hbW hMF RF vF hkF hs1 hHeld; go_wp2_with fail
              refine hK.out _ _ (fun _ => by (first | exact hsz | exact Nat.le_refl _ | (have h9 := hs1; simp <;> omega))) (fun hh => ?_)
              have hHeld := hh rfl
              clear hK K
              try simp only [Act.put, List.setIfInBounds_toArray, List.set_cons_zero, List.set_cons_succ]
              refine wpZ_one (i := 7) (oi := { dst := some 37, op := Go.Op.call { callee := Go.Callee.value (Go.Operand.func 8), args := #[Go.Operand.tmp 30, Go.Operand.tmp 31, Go.Operand.tmp 36], argTypes := #[24, 40, 9] }, type := 27, pos := "law.go:215", after := #[{ on := 0, ground := Go.Ground.data }, { on := 1, ground := Go.Ground.data }, { on := 6, ground := Go.Ground.data }, { on := 1, ground := Go.Ground.chain }], guard := none }) rfl (by kernel_rfl) (fun K hK => ?_)
              go_simp; clear hHeld; refine (mk3 _ _ MF wF _ hp rF HF.out.2.1 HF.out.2.2.1 HF.out.2.2.2 (by first | exact Below.refl _ _ | exact (Below.refl wF.heap.size wF).alloc (Nat.le_refl _) _)).mono ?_; rintro e wM ⟨rfl, hbM, MM, hMM, RM⟩; have hs2 : wF.heap.size ≤ wM.heap.size := Nat.le_trans (by first | exact Nat.le_refl _ | (simp <;> omega)) hbM.size; have hs1 : wr.heap.size ≤ wF.heap.size := (by first | exact hsz | (have h9 := hsz; omega)); have hsz := Nat.le_trans hs1 hs2; have hbX : Below W.heap.size W wM := HF.out.1.trans (Below.trans (by first | exact Below.refl _ _ | exact (Below.refl _ wF).alloc HF.out.1.size _) (hbM.mono HW.out)); have HM := Lib.hid (And.intro hbX (And.intro hMM RM)); clear hbM hMM RM hbX hs2; go_wp2_with fail
              refine hK.out _ _ (fun _ => by (first | exact hsz | exact Nat.le_refl _ | (have h9 := hs1; simp <;> omega))) (fun hh => ?_)
              have hHeld := hh rfl
              clear hK K
              try simp only [Act.put, List.setIfInBounds_toArray, List.set_cons_zero, List.set_cons_succ]
              (refine wpZ_take (i := 8) (oi := { dst := some 29, op := Go.Op.move (Go.Operand.tmp 37), type := 27, pos := "law.go:215", after := #[{ on := 7, ground := Go.Ground.data }], guard := none }) (v := ?_) rfl (by kernel_rfl) (fun _ _ _ h => h) (by assumption) (Or.inl ⟨by rfl, ?_⟩) ?_; rotate_left 1; · ((intro w hSw; (try dsimp only at hSw); go_split_ands; go_simp) <;> (try with_reducible rfl)))
              try simp only [Act.put, List.setIfInBounds_toArray, List.set_cons_zero, List.set_cons_succ]
              (refine wpZ_take (i := 9) (oi := { dst := some 38, op := Go.Op.extract (Go.Operand.tmp 29) 0, type := 3, pos := "law.go:215", after := #[{ on := 8, ground := Go.Ground.data }], guard := none }) (v := ?_) rfl (by kernel_rfl) (fun _ _ _ h => h) (by assumption) (Or.inl ⟨by rfl, ?_⟩) ?_; rotate_left 1; · ((intro w hSw; (try dsimp only at hSw); go_split_ands; go_simp) <;> (try with_reducible rfl)))
              try simp only [Act.put, List.setIfInBounds_toArray, List.set_cons_zero, List.set_cons_succ]
              (refine wpZ_take (i := 10) (oi := { dst := some 39, op := Go.Op.extract (Go.Operand.tmp 29) 1, type := 26, pos := "law.go:215", after := #[{ on := 8, ground := Go.Ground.data }, { on := 11, ground := Go.Ground.gcOnly Go.Departure.lateStores }], guard := none }) (v := ?_) rfl (by kernel_rfl) (fun _ _ _ h => h) (by assumption) (Or.inl ⟨by rfl, ?_⟩) ?_; rotate_left 1; · ((intro w hSw; (try dsimp only at hSw); go_split_ands; go_simp) <;> (try with_reducible rfl)))
              try simp only [Act.put, List.setIfInBounds_toArray, List.set_cons_zero, List.set_cons_succ]
              (refine wpZ_take (i := 11) (oi := { dst := some 8, op := Go.Op.assign (Go.Operand.tmp 38), type := 3, pos := "law.go:215", after := #[{ on := 9, ground := Go.Ground.data }, { on := 7, ground := Go.Ground.chain }, { on := 0, ground := Go.Ground.phase }, { on := 1, ground := Go.Ground.phase }, { on := 2, ground := Go.Ground.phase }, { on := 3, ground := Go.Ground.phase }, { on := 4, ground := Go.Ground.phase }, { on := 5, ground := Go.Ground.phase }, { on := 6, ground := Go.Ground.phase }, { on := 7, ground := Go.Ground.phase }, { on := 8, ground := Go.Ground.phase }, { on := 9, ground := Go.Ground.phase }, { on := 10, ground := Go.Ground.textOnly Go.Departure.lateStores }], guard := none }) (v := ?_) rfl (by kernel_rfl) (fun _ _ _ h => h) (by assumption) (Or.inl ⟨by rfl, ?_⟩) ?_; rotate_left 1; · ((intro w hSw; (try dsimp only at hSw); go_split_ands; go_simp) <;> (try with_reducible rfl)))
              try simp only [Act.put, List.setIfInBounds_toArray, List.set_cons_zero, List.set_cons_succ]
              refine wpZ_one (i := 12) (oi := { dst := some 9, op := Go.Op.assign (Go.Operand.tmp 39), type := 26, pos := "law.go:215", after := #[{ on := 10, ground := Go.Ground.data }, { on := 11, ground := Go.Ground.chain }, { on := 0, ground := Go.Ground.phase }, { on := 1, ground := Go.Ground.phase }, { on := 2, ground := Go.Ground.phase }, { on := 3, ground := Go.Ground.phase }, { on := 4, ground := Go.Ground.phase }, { on := 5, ground := Go.Ground.phase }, { on := 6, ground := Go.Ground.phase }, { on := 7, ground := Go.Ground.phase }, { on := 8, ground := Go.Ground.phase }, { on := 9, ground := Go.Ground.phase }, { on := 10, ground := Go.Ground.phase }, { on := 11, ground := Go.Ground.phase }], guard := none }) rfl (by kernel_rfl) (fun K hK => ?_)
              go_simp
              refine hK.out _ _ (fun h => by simp at h) (fun _ => ?_)
              clear hK K
              try simp only [Act.put, List.setIfInBounds_toArray, List.set_cons_zero, List.set_cons_succ]
              refine wpZ_done (by kernel_rfl) ?_ _
              have t1 : IntKind.i64.wrap 30 = 30 := (by decide); have t2 : IntKind.u64.wrap 30 = 30 := (by decide); have t3 : IntKind.u64.wrap 3 = 3 := (by decide); clear HF HKF; go_wp2_with fail; refine (iv3 _ _ MM wM wM hp _ HM.out.2.1 HM.out.2.2 (Below.refl _ _)).mono ?_; rintro e wI ⟨rfl, hbI, MI, hMI, RI⟩; have HN := Lib.hid (And.intro (HM.out.1.trans (hbI.mono HW.out)) (And.intro hMI RI)); clear hbI hMI RI; go_wp2; go_roundw; (case rel => (first | exact ⟨4, (by have := HLT.out; omega), (by first | rfl | go_num), HN.out.1, MI, HN.out.2⟩ | ((repeat (apply Exists.intro)); refine And.intro ?_ ?_; rotate_left; (focus rfl); (focus exact ⟨4, (by have := HLT.out; omega), (by first | rfl | go_num), HN.out.1, MI, HN.out.2⟩)))); (case measure => (simp [intOf]; (try (have := HLT.out; omega))))
        · have HLT := Lib.hid hlt
          have d0 : decide ((4 : Int) < (kk : Int)) = true := decide_eq_true (by omega)
          have d0n : decide (4 < kk) = true := decide_eq_true (by omega)
          have hch : IntKind.u8.wrap (IntKind.i64.wrap 101) = 101 := by decide
          clear hlt hj
          go_upto_region 10 with (fail)
          refine wp_region_z (fun w' => wr.heap.size ≤ w'.heap.size) (fun j => j == 12) (by kernel_rfl) ?_ (fun hHeld => ?_)
          · first | exact hsz | exact Nat.le_refl _ | (have h9 := hs1; simp <;> omega)
          (refine wpZ_take (i := 0) (oi := { dst := some 30, op := Go.Op.move (Go.Operand.tmp 5), type := 24, pos := "law.go:215", after := #[], guard := none }) (v := ?_) rfl (by kernel_rfl) (fun _ _ _ h => h) (by assumption) (Or.inl ⟨by rfl, ?_⟩) ?_; rotate_left 1; · ((intro w hSw; (try dsimp only at hSw); go_split_ands; go_simp) <;> (try with_reducible rfl)))
          try simp only [Act.put, List.setIfInBounds_toArray, List.set_cons_zero, List.set_cons_succ]
          (refine wpZ_take (i := 2) (oi := { dst := some 32, op := Go.Op.move (Go.Operand.tmp 7), type := 3, pos := "law.go:215", after := #[], guard := none }) (v := ?_) rfl (by kernel_rfl) (fun _ _ _ h => h) (by assumption) (Or.inl ⟨by rfl, ?_⟩) ?_; rotate_left 1; · ((intro w hSw; (try dsimp only at hSw); go_split_ands; go_simp) <;> (try with_reducible rfl)))
          try simp only [Act.put, List.setIfInBounds_toArray, List.set_cons_zero, List.set_cons_succ]
          (refine wpZ_take (i := 3) (oi := { dst := some 33, op := Go.Op.binOp Go.BinOp.add 3 (Go.Operand.const (Go.Value.int Go.IntKind.i64 97)) (Go.Operand.tmp 32) 3, type := 3, pos := "law.go:215", after := #[{ on := 2, ground := Go.Ground.data }], guard := none }) (v := ?_) rfl (by kernel_rfl) (fun _ _ _ h => h) (by assumption) (Or.inl ⟨by rfl, ?_⟩) ?_; rotate_left 1; · ((intro w hSw; (try dsimp only at hSw); go_split_ands; go_simp) <;> (try with_reducible rfl)))
          try simp only [Act.put, List.setIfInBounds_toArray, List.set_cons_zero, List.set_cons_succ]
          (refine wpZ_take (i := 4) (oi := { dst := some 34, op := Go.Op.convert 3 5 (Go.Operand.tmp 33), type := 5, pos := "law.go:215", after := #[{ on := 3, ground := Go.Ground.data }], guard := none }) (v := ?_) rfl (by kernel_rfl) (fun _ _ _ h => h) (by assumption) (Or.inl ⟨by rfl, ?_⟩) ?_; rotate_left 1; · ((intro w hSw; (try dsimp only at hSw); go_split_ands; go_simp) <;> (try with_reducible rfl)))
          try simp only [Act.put, List.setIfInBounds_toArray, List.set_cons_zero, List.set_cons_succ]
          refine wpZ_two (i := 1) (j := 5) (oi := { dst := some 31, op := Go.Op.call { callee := Go.Callee.value (Go.Operand.func 9), args := #[], argTypes := #[] }, type := 40, pos := "law.go:215", after := #[], guard := none }) (oj := { dst := some 35, op := Go.Op.buildSlice 22 2 #[(0, Go.Operand.const (Go.Value.int Go.IntKind.u8 114)), (1, Go.Operand.tmp 34)], type := 22, pos := "law.go:215", after := #[{ on := 4, ground := Go.Ground.data }], guard := none }) rfl rfl (by kernel_rfl) (fun K hK => ?_) (fun K hK => ?_)
          ·
            go_simp; have hs1 := hHeld; refine (fx4 _ _ _ wr _ hp HR.out.2.1 HR.out.2.2 (by first | exact ⟨rfl, rfl, rfl, Nat.le_refl _, fun _ _ => rfl⟩ | exact ⟨hcur.1, hcur.2, hcur.3, hcur.4, hcur.5⟩)).mono ?_; rintro e wF ⟨rF, MF, rfl, hbF, hkF, hMF, RF, vF⟩; have hsz : wr.heap.size ≤ wF.heap.size := Nat.le_trans hs1 hbF.size; have HKF := Lib.hid hkF; have hbW : Below W.heap.size W wF := HR.out.1.trans (Below.trans (by first | exact ⟨rfl, rfl, rfl, Nat.le_refl _, fun _ _ => rfl⟩ | exact Below.mono (B := wr.heap.size) ⟨hcur.1, hcur.2, hcur.3, hcur.4, hcur.5⟩ HR.out.1.size) (hbF.mono HW.out)); have HF := Lib.hid (And.intro hbW (And.intro hMF (And.intro RF vF))); clear hbF hbW hMF RF vF hkF hs1 hHeld; go_wp2_with fail
            refine hK.out _ _ (fun _ => by (first | exact hsz | exact Nat.le_refl _ | (have h9 := hs1; simp <;> omega))) (fun hh => ?_)
            have hHeld := hh rfl
            clear hK K
            try simp only [Act.put, List.setIfInBounds_toArray, List.set_cons_zero, List.set_cons_succ]
            refine wpZ_one (i := 5) (oi := { dst := some 35, op := Go.Op.buildSlice 22 2 #[(0, Go.Operand.const (Go.Value.int Go.IntKind.u8 114)), (1, Go.Operand.tmp 34)], type := 22, pos := "law.go:215", after := #[{ on := 4, ground := Go.Ground.data }], guard := none }) rfl (by kernel_rfl) (fun K hK => ?_)
            go_simp; have hs1 := hHeld; have hcur := (Below.refl wr.heap.size wr).alloc (Nat.le_refl _) (.cells #[.int .u8 114, .int .u8 101] 5); have hlt5 : wr.heap.size < (wr.alloc (.cells #[.int .u8 114, .int .u8 101] 5)).drew.heap.size := (by show wr.heap.size < (wr.alloc _).heap.size; simp)
            refine hK.out _ _ (fun _ => by (first | exact hsz | exact Nat.le_refl _ | (have h9 := hs1; simp <;> omega))) (fun hh => ?_)
            have hHeld := hh rfl
            clear hK K
            try simp only [Act.put, List.setIfInBounds_toArray, List.set_cons_zero, List.set_cons_succ]
            refine wpZ_one (i := 6) (oi := { dst := some 36, op := Go.Op.convert 22 9 (Go.Operand.tmp 35), type := 9, pos := "law.go:215", after := #[{ on := 5, ground := Go.Ground.data }], guard := none }) rfl (by kernel_rfl) (fun K hK => ?_)
            have hs1 := hHeld; have hsz := hHeld; (first | (have hcv := convK 101 (by decide) (HKF.out wr.heap.size (Nat.le_refl _) hlt5)) | (have hcv := convN wF 101 101 (by decide)) | (have hcv := convD wr 101 101 (by decide))); go_simp; clear hcv
            refine hK.out _ _ (fun _ => by (first | exact hsz | exact Nat.le_refl _ | (have h9 := hs1; simp <;> omega))) (fun hh => ?_)
            have hHeld := hh rfl
            clear hK K
            try simp only [Act.put, List.setIfInBounds_toArray, List.set_cons_zero, List.set_cons_succ]
            refine wpZ_one (i := 7) (oi := { dst := some 37, op := Go.Op.call { callee := Go.Callee.value (Go.Operand.func 8), args := #[Go.Operand.tmp 30, Go.Operand.tmp 31, Go.Operand.tmp 36], argTypes := #[24, 40, 9] }, type := 27, pos := "law.go:215", after := #[{ on := 0, ground := Go.Ground.data }, { on := 1, ground := Go.Ground.data }, { on := 6, ground := Go.Ground.data }, { on := 1, ground := Go.Ground.chain }], guard := none }) rfl (by kernel_rfl) (fun K hK => ?_)
            go_simp; clear hHeld; refine (mk4 _ _ MF wF _ hp rF HF.out.2.1 HF.out.2.2.1 HF.out.2.2.2 (by first | exact Below.refl _ _ | exact (Below.refl wF.heap.size wF).alloc (Nat.le_refl _) _)).mono ?_; rintro e wM ⟨rfl, hbM, MM, hMM, RM⟩; have hs2 : wF.heap.size ≤ wM.heap.size := Nat.le_trans (by first | exact Nat.le_refl _ | (simp <;> omega)) hbM.size; have hs1 : wr.heap.size ≤ wF.heap.size := (by first | exact hsz | (have h9 := hsz; omega)); have hsz := Nat.le_trans hs1 hs2; have hbX : Below W.heap.size W wM := HF.out.1.trans (Below.trans (by first | exact Below.refl _ _ | exact (Below.refl _ wF).alloc HF.out.1.size _) (hbM.mono HW.out)); have HM := Lib.hid (And.intro hbX (And.intro hMM RM)); clear hbM hMM RM hbX hs2; go_wp2_with fail
            refine hK.out _ _ (fun _ => by (first | exact hsz | exact Nat.le_refl _ | (have h9 := hs1; simp <;> omega))) (fun hh => ?_)
            have hHeld := hh rfl
            clear hK K
            try simp only [Act.put, List.setIfInBounds_toArray, List.set_cons_zero, List.set_cons_succ]
            (refine wpZ_take (i := 8) (oi := { dst := some 29, op := Go.Op.move (Go.Operand.tmp 37), type := 27, pos := "law.go:215", after := #[{ on := 7, ground := Go.Ground.data }], guard := none }) (v := ?_) rfl (by kernel_rfl) (fun _ _ _ h => h) (by assumption) (Or.inl ⟨by rfl, ?_⟩) ?_; rotate_left 1; · ((intro w hSw; (try dsimp only at hSw); go_split_ands; go_simp) <;> (try with_reducible rfl)))
            try simp only [Act.put, List.setIfInBounds_toArray, List.set_cons_zero, List.set_cons_succ]
            (refine wpZ_take (i := 9) (oi := { dst := some 38, op := Go.Op.extract (Go.Operand.tmp 29) 0, type := 3, pos := "law.go:215", after := #[{ on := 8, ground := Go.Ground.data }], guard := none }) (v := ?_) rfl (by kernel_rfl) (fun _ _ _ h => h) (by assumption) (Or.inl ⟨by rfl, ?_⟩) ?_; rotate_left 1; · ((intro w hSw; (try dsimp only at hSw); go_split_ands; go_simp) <;> (try with_reducible rfl)))
            try simp only [Act.put, List.setIfInBounds_toArray, List.set_cons_zero, List.set_cons_succ]
            (refine wpZ_take (i := 10) (oi := { dst := some 39, op := Go.Op.extract (Go.Operand.tmp 29) 1, type := 26, pos := "law.go:215", after := #[{ on := 8, ground := Go.Ground.data }, { on := 11, ground := Go.Ground.gcOnly Go.Departure.lateStores }], guard := none }) (v := ?_) rfl (by kernel_rfl) (fun _ _ _ h => h) (by assumption) (Or.inl ⟨by rfl, ?_⟩) ?_; rotate_left 1; · ((intro w hSw; (try dsimp only at hSw); go_split_ands; go_simp) <;> (try with_reducible rfl)))
            try simp only [Act.put, List.setIfInBounds_toArray, List.set_cons_zero, List.set_cons_succ]
            (refine wpZ_take (i := 11) (oi := { dst := some 8, op := Go.Op.assign (Go.Operand.tmp 38), type := 3, pos := "law.go:215", after := #[{ on := 9, ground := Go.Ground.data }, { on := 7, ground := Go.Ground.chain }, { on := 0, ground := Go.Ground.phase }, { on := 1, ground := Go.Ground.phase }, { on := 2, ground := Go.Ground.phase }, { on := 3, ground := Go.Ground.phase }, { on := 4, ground := Go.Ground.phase }, { on := 5, ground := Go.Ground.phase }, { on := 6, ground := Go.Ground.phase }, { on := 7, ground := Go.Ground.phase }, { on := 8, ground := Go.Ground.phase }, { on := 9, ground := Go.Ground.phase }, { on := 10, ground := Go.Ground.textOnly Go.Departure.lateStores }], guard := none }) (v := ?_) rfl (by kernel_rfl) (fun _ _ _ h => h) (by assumption) (Or.inl ⟨by rfl, ?_⟩) ?_; rotate_left 1; · ((intro w hSw; (try dsimp only at hSw); go_split_ands; go_simp) <;> (try with_reducible rfl)))
            try simp only [Act.put, List.setIfInBounds_toArray, List.set_cons_zero, List.set_cons_succ]
            refine wpZ_one (i := 12) (oi := { dst := some 9, op := Go.Op.assign (Go.Operand.tmp 39), type := 26, pos := "law.go:215", after := #[{ on := 10, ground := Go.Ground.data }, { on := 11, ground := Go.Ground.chain }, { on := 0, ground := Go.Ground.phase }, { on := 1, ground := Go.Ground.phase }, { on := 2, ground := Go.Ground.phase }, { on := 3, ground := Go.Ground.phase }, { on := 4, ground := Go.Ground.phase }, { on := 5, ground := Go.Ground.phase }, { on := 6, ground := Go.Ground.phase }, { on := 7, ground := Go.Ground.phase }, { on := 8, ground := Go.Ground.phase }, { on := 9, ground := Go.Ground.phase }, { on := 10, ground := Go.Ground.phase }, { on := 11, ground := Go.Ground.phase }], guard := none }) rfl (by kernel_rfl) (fun K hK => ?_)
            go_simp
            refine hK.out _ _ (fun h => by simp at h) (fun _ => ?_)
            clear hK K
            try simp only [Act.put, List.setIfInBounds_toArray, List.set_cons_zero, List.set_cons_succ]
            refine wpZ_done (by kernel_rfl) ?_ _
            have t1 : IntKind.i64.wrap 40 = 40 := (by decide); have t2 : IntKind.u64.wrap 40 = 40 := (by decide); have t3 : IntKind.u64.wrap 4 = 4 := (by decide); clear HF HKF; go_wp2_with fail; refine (iv4 _ _ MM wM wM hp _ HM.out.2.1 HM.out.2.2 (Below.refl _ _)).mono ?_; rintro e wI ⟨rfl, hbI, MI, hMI, RI⟩; have HN := Lib.hid (And.intro (HM.out.1.trans (hbI.mono HW.out)) (And.intro hMI RI)); clear hbI hMI RI; go_wp2; go_roundw; (case rel => (first | exact ⟨5, (by have := HLT.out; omega), (by first | rfl | go_num), HN.out.1, MI, HN.out.2⟩ | ((repeat (apply Exists.intro)); refine And.intro ?_ ?_; rotate_left; (focus rfl); (focus exact ⟨5, (by have := HLT.out; omega), (by first | rfl | go_num), HN.out.1, MI, HN.out.2⟩)))); (case measure => (simp [intOf]; (try (have := HLT.out; omega))))
          ·
            go_simp; have hs1 := hHeld; have hcur := (Below.refl wr.heap.size wr).alloc (Nat.le_refl _) (.cells #[.int .u8 114, .int .u8 101] 5); have hlt5 : wr.heap.size < (wr.alloc (.cells #[.int .u8 114, .int .u8 101] 5)).drew.heap.size := (by show wr.heap.size < (wr.alloc _).heap.size; simp)
            refine hK.out _ _ (fun _ => by (first | exact hsz | exact Nat.le_refl _ | (have h9 := hs1; simp <;> omega))) (fun hh => ?_)
            have hHeld := hh rfl
            clear hK K
            try simp only [Act.put, List.setIfInBounds_toArray, List.set_cons_zero, List.set_cons_succ]
            refine wpZ_two (i := 1) (j := 6) (oi := { dst := some 31, op := Go.Op.call { callee := Go.Callee.value (Go.Operand.func 9), args := #[], argTypes := #[] }, type := 40, pos := "law.go:215", after := #[], guard := none }) (oj := { dst := some 36, op := Go.Op.convert 22 9 (Go.Operand.tmp 35), type := 9, pos := "law.go:215", after := #[{ on := 5, ground := Go.Ground.data }], guard := none }) rfl rfl (by kernel_rfl) (fun K hK => ?_) (fun K hK => ?_)
            ·
              go_simp; have hs1 := hHeld; refine (fx4 _ _ _ wr _ hp HR.out.2.1 HR.out.2.2 (by first | exact ⟨rfl, rfl, rfl, Nat.le_refl _, fun _ _ => rfl⟩ | exact ⟨hcur.1, hcur.2, hcur.3, hcur.4, hcur.5⟩)).mono ?_; rintro e wF ⟨rF, MF, rfl, hbF, hkF, hMF, RF, vF⟩; have hsz : wr.heap.size ≤ wF.heap.size := Nat.le_trans hs1 hbF.size; have HKF := Lib.hid hkF; have hbW : Below W.heap.size W wF := HR.out.1.trans (Below.trans (by first | exact ⟨rfl, rfl, rfl, Nat.le_refl _, fun _ _ => rfl⟩ | exact Below.mono (B := wr.heap.size) ⟨hcur.1, hcur.2, hcur.3, hcur.4, hcur.5⟩ HR.out.1.size) (hbF.mono HW.out)); have HF := Lib.hid (And.intro hbW (And.intro hMF (And.intro RF vF))); clear hbF hbW hMF RF vF hkF hs1 hHeld; go_wp2_with fail
              refine hK.out _ _ (fun _ => by (first | exact hsz | exact Nat.le_refl _ | (have h9 := hs1; simp <;> omega))) (fun hh => ?_)
              have hHeld := hh rfl
              clear hK K
              try simp only [Act.put, List.setIfInBounds_toArray, List.set_cons_zero, List.set_cons_succ]
              refine wpZ_one (i := 6) (oi := { dst := some 36, op := Go.Op.convert 22 9 (Go.Operand.tmp 35), type := 9, pos := "law.go:215", after := #[{ on := 5, ground := Go.Ground.data }], guard := none }) rfl (by kernel_rfl) (fun K hK => ?_)
              have hs1 := hHeld; have hsz := hHeld; (first | (have hcv := convK 101 (by decide) (HKF.out wr.heap.size (Nat.le_refl _) hlt5)) | (have hcv := convN wF 101 101 (by decide)) | (have hcv := convD wr 101 101 (by decide))); go_simp; clear hcv
              refine hK.out _ _ (fun _ => by (first | exact hsz | exact Nat.le_refl _ | (have h9 := hs1; simp <;> omega))) (fun hh => ?_)
              have hHeld := hh rfl
              clear hK K
              try simp only [Act.put, List.setIfInBounds_toArray, List.set_cons_zero, List.set_cons_succ]
              refine wpZ_one (i := 7) (oi := { dst := some 37, op := Go.Op.call { callee := Go.Callee.value (Go.Operand.func 8), args := #[Go.Operand.tmp 30, Go.Operand.tmp 31, Go.Operand.tmp 36], argTypes := #[24, 40, 9] }, type := 27, pos := "law.go:215", after := #[{ on := 0, ground := Go.Ground.data }, { on := 1, ground := Go.Ground.data }, { on := 6, ground := Go.Ground.data }, { on := 1, ground := Go.Ground.chain }], guard := none }) rfl (by kernel_rfl) (fun K hK => ?_)
              go_simp; clear hHeld; refine (mk4 _ _ MF wF _ hp rF HF.out.2.1 HF.out.2.2.1 HF.out.2.2.2 (by first | exact Below.refl _ _ | exact (Below.refl wF.heap.size wF).alloc (Nat.le_refl _) _)).mono ?_; rintro e wM ⟨rfl, hbM, MM, hMM, RM⟩; have hs2 : wF.heap.size ≤ wM.heap.size := Nat.le_trans (by first | exact Nat.le_refl _ | (simp <;> omega)) hbM.size; have hs1 : wr.heap.size ≤ wF.heap.size := (by first | exact hsz | (have h9 := hsz; omega)); have hsz := Nat.le_trans hs1 hs2; have hbX : Below W.heap.size W wM := HF.out.1.trans (Below.trans (by first | exact Below.refl _ _ | exact (Below.refl _ wF).alloc HF.out.1.size _) (hbM.mono HW.out)); have HM := Lib.hid (And.intro hbX (And.intro hMM RM)); clear hbM hMM RM hbX hs2; go_wp2_with fail
              refine hK.out _ _ (fun _ => by (first | exact hsz | exact Nat.le_refl _ | (have h9 := hs1; simp <;> omega))) (fun hh => ?_)
              have hHeld := hh rfl
              clear hK K
              try simp only [Act.put, List.setIfInBounds_toArray, List.set_cons_zero, List.set_cons_succ]
              (refine wpZ_take (i := 8) (oi := { dst := some 29, op := Go.Op.move (Go.Operand.tmp 37), type := 27, pos := "law.go:215", after := #[{ on := 7, ground := Go.Ground.data }], guard := none }) (v := ?_) rfl (by kernel_rfl) (fun _ _ _ h => h) (by assumption) (Or.inl ⟨by rfl, ?_⟩) ?_; rotate_left 1; · ((intro w hSw; (try dsimp only at hSw); go_split_ands; go_simp) <;> (try with_reducible rfl)))
              try simp only [Act.put, List.setIfInBounds_toArray, List.set_cons_zero, List.set_cons_succ]
              (refine wpZ_take (i := 9) (oi := { dst := some 38, op := Go.Op.extract (Go.Operand.tmp 29) 0, type := 3, pos := "law.go:215", after := #[{ on := 8, ground := Go.Ground.data }], guard := none }) (v := ?_) rfl (by kernel_rfl) (fun _ _ _ h => h) (by assumption) (Or.inl ⟨by rfl, ?_⟩) ?_; rotate_left 1; · ((intro w hSw; (try dsimp only at hSw); go_split_ands; go_simp) <;> (try with_reducible rfl)))
              try simp only [Act.put, List.setIfInBounds_toArray, List.set_cons_zero, List.set_cons_succ]
              (refine wpZ_take (i := 10) (oi := { dst := some 39, op := Go.Op.extract (Go.Operand.tmp 29) 1, type := 26, pos := "law.go:215", after := #[{ on := 8, ground := Go.Ground.data }, { on := 11, ground := Go.Ground.gcOnly Go.Departure.lateStores }], guard := none }) (v := ?_) rfl (by kernel_rfl) (fun _ _ _ h => h) (by assumption) (Or.inl ⟨by rfl, ?_⟩) ?_; rotate_left 1; · ((intro w hSw; (try dsimp only at hSw); go_split_ands; go_simp) <;> (try with_reducible rfl)))
              try simp only [Act.put, List.setIfInBounds_toArray, List.set_cons_zero, List.set_cons_succ]
              (refine wpZ_take (i := 11) (oi := { dst := some 8, op := Go.Op.assign (Go.Operand.tmp 38), type := 3, pos := "law.go:215", after := #[{ on := 9, ground := Go.Ground.data }, { on := 7, ground := Go.Ground.chain }, { on := 0, ground := Go.Ground.phase }, { on := 1, ground := Go.Ground.phase }, { on := 2, ground := Go.Ground.phase }, { on := 3, ground := Go.Ground.phase }, { on := 4, ground := Go.Ground.phase }, { on := 5, ground := Go.Ground.phase }, { on := 6, ground := Go.Ground.phase }, { on := 7, ground := Go.Ground.phase }, { on := 8, ground := Go.Ground.phase }, { on := 9, ground := Go.Ground.phase }, { on := 10, ground := Go.Ground.textOnly Go.Departure.lateStores }], guard := none }) (v := ?_) rfl (by kernel_rfl) (fun _ _ _ h => h) (by assumption) (Or.inl ⟨by rfl, ?_⟩) ?_; rotate_left 1; · ((intro w hSw; (try dsimp only at hSw); go_split_ands; go_simp) <;> (try with_reducible rfl)))
              try simp only [Act.put, List.setIfInBounds_toArray, List.set_cons_zero, List.set_cons_succ]
              refine wpZ_one (i := 12) (oi := { dst := some 9, op := Go.Op.assign (Go.Operand.tmp 39), type := 26, pos := "law.go:215", after := #[{ on := 10, ground := Go.Ground.data }, { on := 11, ground := Go.Ground.chain }, { on := 0, ground := Go.Ground.phase }, { on := 1, ground := Go.Ground.phase }, { on := 2, ground := Go.Ground.phase }, { on := 3, ground := Go.Ground.phase }, { on := 4, ground := Go.Ground.phase }, { on := 5, ground := Go.Ground.phase }, { on := 6, ground := Go.Ground.phase }, { on := 7, ground := Go.Ground.phase }, { on := 8, ground := Go.Ground.phase }, { on := 9, ground := Go.Ground.phase }, { on := 10, ground := Go.Ground.phase }, { on := 11, ground := Go.Ground.phase }], guard := none }) rfl (by kernel_rfl) (fun K hK => ?_)
              go_simp
              refine hK.out _ _ (fun h => by simp at h) (fun _ => ?_)
              clear hK K
              try simp only [Act.put, List.setIfInBounds_toArray, List.set_cons_zero, List.set_cons_succ]
              refine wpZ_done (by kernel_rfl) ?_ _
              have t1 : IntKind.i64.wrap 40 = 40 := (by decide); have t2 : IntKind.u64.wrap 40 = 40 := (by decide); have t3 : IntKind.u64.wrap 4 = 4 := (by decide); clear HF HKF; go_wp2_with fail; refine (iv4 _ _ MM wM wM hp _ HM.out.2.1 HM.out.2.2 (Below.refl _ _)).mono ?_; rintro e wI ⟨rfl, hbI, MI, hMI, RI⟩; have HN := Lib.hid (And.intro (HM.out.1.trans (hbI.mono HW.out)) (And.intro hMI RI)); clear hbI hMI RI; go_wp2; go_roundw; (case rel => (first | exact ⟨5, (by have := HLT.out; omega), (by first | rfl | go_num), HN.out.1, MI, HN.out.2⟩ | ((repeat (apply Exists.intro)); refine And.intro ?_ ?_; rotate_left; (focus rfl); (focus exact ⟨5, (by have := HLT.out; omega), (by first | rfl | go_num), HN.out.1, MI, HN.out.2⟩)))); (case measure => (simp [intOf]; (try (have := HLT.out; omega))))
            ·
              have hs1 := hHeld; have hsz := hHeld; (first | (have hcv := convK 101 (by decide) (HKF.out wr.heap.size (Nat.le_refl _) hlt5)) | (have hcv := convN wF 101 101 (by decide)) | (have hcv := convD wr 101 101 (by decide))); go_simp; clear hcv
              refine hK.out _ _ (fun _ => by (first | exact hsz | exact Nat.le_refl _ | (have h9 := hs1; simp <;> omega))) (fun hh => ?_)
              have hHeld := hh rfl
              clear hK K
              try simp only [Act.put, List.setIfInBounds_toArray, List.set_cons_zero, List.set_cons_succ]
              refine wpZ_one (i := 1) (oi := { dst := some 31, op := Go.Op.call { callee := Go.Callee.value (Go.Operand.func 9), args := #[], argTypes := #[] }, type := 40, pos := "law.go:215", after := #[], guard := none }) rfl (by kernel_rfl) (fun K hK => ?_)
              go_simp; have hs1 := hHeld; refine (fx4 _ _ _ wr _ hp HR.out.2.1 HR.out.2.2 (by first | exact ⟨rfl, rfl, rfl, Nat.le_refl _, fun _ _ => rfl⟩ | exact ⟨hcur.1, hcur.2, hcur.3, hcur.4, hcur.5⟩)).mono ?_; rintro e wF ⟨rF, MF, rfl, hbF, hkF, hMF, RF, vF⟩; have hsz : wr.heap.size ≤ wF.heap.size := Nat.le_trans hs1 hbF.size; have HKF := Lib.hid hkF; have hbW : Below W.heap.size W wF := HR.out.1.trans (Below.trans (by first | exact ⟨rfl, rfl, rfl, Nat.le_refl _, fun _ _ => rfl⟩ | exact Below.mono (B := wr.heap.size) ⟨hcur.1, hcur.2, hcur.3, hcur.4, hcur.5⟩ HR.out.1.size) (hbF.mono HW.out)); have HF := Lib.hid (And.intro hbW (And.intro hMF (And.intro RF vF))); clear hbF hbW hMF RF vF hkF hs1 hHeld; go_wp2_with fail
              refine hK.out _ _ (fun _ => by (first | exact hsz | exact Nat.le_refl _ | (have h9 := hs1; simp <;> omega))) (fun hh => ?_)
              have hHeld := hh rfl
              clear hK K
              try simp only [Act.put, List.setIfInBounds_toArray, List.set_cons_zero, List.set_cons_succ]
              refine wpZ_one (i := 7) (oi := { dst := some 37, op := Go.Op.call { callee := Go.Callee.value (Go.Operand.func 8), args := #[Go.Operand.tmp 30, Go.Operand.tmp 31, Go.Operand.tmp 36], argTypes := #[24, 40, 9] }, type := 27, pos := "law.go:215", after := #[{ on := 0, ground := Go.Ground.data }, { on := 1, ground := Go.Ground.data }, { on := 6, ground := Go.Ground.data }, { on := 1, ground := Go.Ground.chain }], guard := none }) rfl (by kernel_rfl) (fun K hK => ?_)
              go_simp; clear hHeld; refine (mk4 _ _ MF wF _ hp rF HF.out.2.1 HF.out.2.2.1 HF.out.2.2.2 (by first | exact Below.refl _ _ | exact (Below.refl wF.heap.size wF).alloc (Nat.le_refl _) _)).mono ?_; rintro e wM ⟨rfl, hbM, MM, hMM, RM⟩; have hs2 : wF.heap.size ≤ wM.heap.size := Nat.le_trans (by first | exact Nat.le_refl _ | (simp <;> omega)) hbM.size; have hs1 : wr.heap.size ≤ wF.heap.size := (by first | exact hsz | (have h9 := hsz; omega)); have hsz := Nat.le_trans hs1 hs2; have hbX : Below W.heap.size W wM := HF.out.1.trans (Below.trans (by first | exact Below.refl _ _ | exact (Below.refl _ wF).alloc HF.out.1.size _) (hbM.mono HW.out)); have HM := Lib.hid (And.intro hbX (And.intro hMM RM)); clear hbM hMM RM hbX hs2; go_wp2_with fail
              refine hK.out _ _ (fun _ => by (first | exact hsz | exact Nat.le_refl _ | (have h9 := hs1; simp <;> omega))) (fun hh => ?_)
              have hHeld := hh rfl
              clear hK K
              try simp only [Act.put, List.setIfInBounds_toArray, List.set_cons_zero, List.set_cons_succ]
              (refine wpZ_take (i := 8) (oi := { dst := some 29, op := Go.Op.move (Go.Operand.tmp 37), type := 27, pos := "law.go:215", after := #[{ on := 7, ground := Go.Ground.data }], guard := none }) (v := ?_) rfl (by kernel_rfl) (fun _ _ _ h => h) (by assumption) (Or.inl ⟨by rfl, ?_⟩) ?_; rotate_left 1; · ((intro w hSw; (try dsimp only at hSw); go_split_ands; go_simp) <;> (try with_reducible rfl)))
              try simp only [Act.put, List.setIfInBounds_toArray, List.set_cons_zero, List.set_cons_succ]
              (refine wpZ_take (i := 9) (oi := { dst := some 38, op := Go.Op.extract (Go.Operand.tmp 29) 0, type := 3, pos := "law.go:215", after := #[{ on := 8, ground := Go.Ground.data }], guard := none }) (v := ?_) rfl (by kernel_rfl) (fun _ _ _ h => h) (by assumption) (Or.inl ⟨by rfl, ?_⟩) ?_; rotate_left 1; · ((intro w hSw; (try dsimp only at hSw); go_split_ands; go_simp) <;> (try with_reducible rfl)))
              try simp only [Act.put, List.setIfInBounds_toArray, List.set_cons_zero, List.set_cons_succ]
              (refine wpZ_take (i := 10) (oi := { dst := some 39, op := Go.Op.extract (Go.Operand.tmp 29) 1, type := 26, pos := "law.go:215", after := #[{ on := 8, ground := Go.Ground.data }, { on := 11, ground := Go.Ground.gcOnly Go.Departure.lateStores }], guard := none }) (v := ?_) rfl (by kernel_rfl) (fun _ _ _ h => h) (by assumption) (Or.inl ⟨by rfl, ?_⟩) ?_; rotate_left 1; · ((intro w hSw; (try dsimp only at hSw); go_split_ands; go_simp) <;> (try with_reducible rfl)))
              try simp only [Act.put, List.setIfInBounds_toArray, List.set_cons_zero, List.set_cons_succ]
              (refine wpZ_take (i := 11) (oi := { dst := some 8, op := Go.Op.assign (Go.Operand.tmp 38), type := 3, pos := "law.go:215", after := #[{ on := 9, ground := Go.Ground.data }, { on := 7, ground := Go.Ground.chain }, { on := 0, ground := Go.Ground.phase }, { on := 1, ground := Go.Ground.phase }, { on := 2, ground := Go.Ground.phase }, { on := 3, ground := Go.Ground.phase }, { on := 4, ground := Go.Ground.phase }, { on := 5, ground := Go.Ground.phase }, { on := 6, ground := Go.Ground.phase }, { on := 7, ground := Go.Ground.phase }, { on := 8, ground := Go.Ground.phase }, { on := 9, ground := Go.Ground.phase }, { on := 10, ground := Go.Ground.textOnly Go.Departure.lateStores }], guard := none }) (v := ?_) rfl (by kernel_rfl) (fun _ _ _ h => h) (by assumption) (Or.inl ⟨by rfl, ?_⟩) ?_; rotate_left 1; · ((intro w hSw; (try dsimp only at hSw); go_split_ands; go_simp) <;> (try with_reducible rfl)))
              try simp only [Act.put, List.setIfInBounds_toArray, List.set_cons_zero, List.set_cons_succ]
              refine wpZ_one (i := 12) (oi := { dst := some 9, op := Go.Op.assign (Go.Operand.tmp 39), type := 26, pos := "law.go:215", after := #[{ on := 10, ground := Go.Ground.data }, { on := 11, ground := Go.Ground.chain }, { on := 0, ground := Go.Ground.phase }, { on := 1, ground := Go.Ground.phase }, { on := 2, ground := Go.Ground.phase }, { on := 3, ground := Go.Ground.phase }, { on := 4, ground := Go.Ground.phase }, { on := 5, ground := Go.Ground.phase }, { on := 6, ground := Go.Ground.phase }, { on := 7, ground := Go.Ground.phase }, { on := 8, ground := Go.Ground.phase }, { on := 9, ground := Go.Ground.phase }, { on := 10, ground := Go.Ground.phase }, { on := 11, ground := Go.Ground.phase }], guard := none }) rfl (by kernel_rfl) (fun K hK => ?_)
              go_simp
              refine hK.out _ _ (fun h => by simp at h) (fun _ => ?_)
              clear hK K
              try simp only [Act.put, List.setIfInBounds_toArray, List.set_cons_zero, List.set_cons_succ]
              refine wpZ_done (by kernel_rfl) ?_ _
              have t1 : IntKind.i64.wrap 40 = 40 := (by decide); have t2 : IntKind.u64.wrap 40 = 40 := (by decide); have t3 : IntKind.u64.wrap 4 = 4 := (by decide); clear HF HKF; go_wp2_with fail; refine (iv4 _ _ MM wM wM hp _ HM.out.2.1 HM.out.2.2 (Below.refl _ _)).mono ?_; rintro e wI ⟨rfl, hbI, MI, hMI, RI⟩; have HN := Lib.hid (And.intro (HM.out.1.trans (hbI.mono HW.out)) (And.intro hMI RI)); clear hbI hMI RI; go_wp2; go_roundw; (case rel => (first | exact ⟨5, (by have := HLT.out; omega), (by first | rfl | go_num), HN.out.1, MI, HN.out.2⟩ | ((repeat (apply Exists.intro)); refine And.intro ?_ ?_; rotate_left; (focus rfl); (focus exact ⟨5, (by have := HLT.out; omega), (by first | rfl | go_num), HN.out.1, MI, HN.out.2⟩)))); (case measure => (simp [intOf]; (try (have := HLT.out; omega))))
        · have HLT := Lib.hid hlt
          have d0 : decide ((5 : Int) < (kk : Int)) = true := decide_eq_true (by omega)
          have d0n : decide (5 < kk) = true := decide_eq_true (by omega)
          have hch : IntKind.u8.wrap (IntKind.i64.wrap 102) = 102 := by decide
          clear hlt hj
          go_upto_region 10 with (fail)
          refine wp_region_z (fun w' => wr.heap.size ≤ w'.heap.size) (fun j => j == 12) (by kernel_rfl) ?_ (fun hHeld => ?_)
          · first | exact hsz | exact Nat.le_refl _ | (have h9 := hs1; simp <;> omega)
          (refine wpZ_take (i := 0) (oi := { dst := some 30, op := Go.Op.move (Go.Operand.tmp 5), type := 24, pos := "law.go:215", after := #[], guard := none }) (v := ?_) rfl (by kernel_rfl) (fun _ _ _ h => h) (by assumption) (Or.inl ⟨by rfl, ?_⟩) ?_; rotate_left 1; · ((intro w hSw; (try dsimp only at hSw); go_split_ands; go_simp) <;> (try with_reducible rfl)))
          try simp only [Act.put, List.setIfInBounds_toArray, List.set_cons_zero, List.set_cons_succ]
          (refine wpZ_take (i := 2) (oi := { dst := some 32, op := Go.Op.move (Go.Operand.tmp 7), type := 3, pos := "law.go:215", after := #[], guard := none }) (v := ?_) rfl (by kernel_rfl) (fun _ _ _ h => h) (by assumption) (Or.inl ⟨by rfl, ?_⟩) ?_; rotate_left 1; · ((intro w hSw; (try dsimp only at hSw); go_split_ands; go_simp) <;> (try with_reducible rfl)))
          try simp only [Act.put, List.setIfInBounds_toArray, List.set_cons_zero, List.set_cons_succ]
          (refine wpZ_take (i := 3) (oi := { dst := some 33, op := Go.Op.binOp Go.BinOp.add 3 (Go.Operand.const (Go.Value.int Go.IntKind.i64 97)) (Go.Operand.tmp 32) 3, type := 3, pos := "law.go:215", after := #[{ on := 2, ground := Go.Ground.data }], guard := none }) (v := ?_) rfl (by kernel_rfl) (fun _ _ _ h => h) (by assumption) (Or.inl ⟨by rfl, ?_⟩) ?_; rotate_left 1; · ((intro w hSw; (try dsimp only at hSw); go_split_ands; go_simp) <;> (try with_reducible rfl)))
          try simp only [Act.put, List.setIfInBounds_toArray, List.set_cons_zero, List.set_cons_succ]
          (refine wpZ_take (i := 4) (oi := { dst := some 34, op := Go.Op.convert 3 5 (Go.Operand.tmp 33), type := 5, pos := "law.go:215", after := #[{ on := 3, ground := Go.Ground.data }], guard := none }) (v := ?_) rfl (by kernel_rfl) (fun _ _ _ h => h) (by assumption) (Or.inl ⟨by rfl, ?_⟩) ?_; rotate_left 1; · ((intro w hSw; (try dsimp only at hSw); go_split_ands; go_simp) <;> (try with_reducible rfl)))
          try simp only [Act.put, List.setIfInBounds_toArray, List.set_cons_zero, List.set_cons_succ]
          refine wpZ_two (i := 1) (j := 5) (oi := { dst := some 31, op := Go.Op.call { callee := Go.Callee.value (Go.Operand.func 9), args := #[], argTypes := #[] }, type := 40, pos := "law.go:215", after := #[], guard := none }) (oj := { dst := some 35, op := Go.Op.buildSlice 22 2 #[(0, Go.Operand.const (Go.Value.int Go.IntKind.u8 114)), (1, Go.Operand.tmp 34)], type := 22, pos := "law.go:215", after := #[{ on := 4, ground := Go.Ground.data }], guard := none }) rfl rfl (by kernel_rfl) (fun K hK => ?_) (fun K hK => ?_)
          ·
            go_simp; have hs1 := hHeld; refine (fx5 _ _ _ wr _ hp HR.out.2.1 HR.out.2.2 (by first | exact ⟨rfl, rfl, rfl, Nat.le_refl _, fun _ _ => rfl⟩ | exact ⟨hcur.1, hcur.2, hcur.3, hcur.4, hcur.5⟩)).mono ?_; rintro e wF ⟨rF, MF, rfl, hbF, hkF, hMF, RF, vF⟩; have hsz : wr.heap.size ≤ wF.heap.size := Nat.le_trans hs1 hbF.size; have HKF := Lib.hid hkF; have hbW : Below W.heap.size W wF := HR.out.1.trans (Below.trans (by first | exact ⟨rfl, rfl, rfl, Nat.le_refl _, fun _ _ => rfl⟩ | exact Below.mono (B := wr.heap.size) ⟨hcur.1, hcur.2, hcur.3, hcur.4, hcur.5⟩ HR.out.1.size) (hbF.mono HW.out)); have HF := Lib.hid (And.intro hbW (And.intro hMF (And.intro RF vF))); clear hbF hbW hMF RF vF hkF hs1 hHeld; go_wp2_with fail
            refine hK.out _ _ (fun _ => by (first | exact hsz | exact Nat.le_refl _ | (have h9 := hs1; simp <;> omega))) (fun hh => ?_)
            have hHeld := hh rfl
            clear hK K
            try simp only [Act.put, List.setIfInBounds_toArray, List.set_cons_zero, List.set_cons_succ]
            refine wpZ_one (i := 5) (oi := { dst := some 35, op := Go.Op.buildSlice 22 2 #[(0, Go.Operand.const (Go.Value.int Go.IntKind.u8 114)), (1, Go.Operand.tmp 34)], type := 22, pos := "law.go:215", after := #[{ on := 4, ground := Go.Ground.data }], guard := none }) rfl (by kernel_rfl) (fun K hK => ?_)
            go_simp; have hs1 := hHeld; have hcur := (Below.refl wr.heap.size wr).alloc (Nat.le_refl _) (.cells #[.int .u8 114, .int .u8 102] 5); have hlt5 : wr.heap.size < (wr.alloc (.cells #[.int .u8 114, .int .u8 102] 5)).drew.heap.size := (by show wr.heap.size < (wr.alloc _).heap.size; simp)
            refine hK.out _ _ (fun _ => by (first | exact hsz | exact Nat.le_refl _ | (have h9 := hs1; simp <;> omega))) (fun hh => ?_)
            have hHeld := hh rfl
            clear hK K
            try simp only [Act.put, List.setIfInBounds_toArray, List.set_cons_zero, List.set_cons_succ]
            refine wpZ_one (i := 6) (oi := { dst := some 36, op := Go.Op.convert 22 9 (Go.Operand.tmp 35), type := 9, pos := "law.go:215", after := #[{ on := 5, ground := Go.Ground.data }], guard := none }) rfl (by kernel_rfl) (fun K hK => ?_)
            have hs1 := hHeld; have hsz := hHeld; (first | (have hcv := convK 102 (by decide) (HKF.out wr.heap.size (Nat.le_refl _) hlt5)) | (have hcv := convN wF 102 102 (by decide)) | (have hcv := convD wr 102 102 (by decide))); go_simp; clear hcv
            refine hK.out _ _ (fun _ => by (first | exact hsz | exact Nat.le_refl _ | (have h9 := hs1; simp <;> omega))) (fun hh => ?_)
            have hHeld := hh rfl
            clear hK K
            try simp only [Act.put, List.setIfInBounds_toArray, List.set_cons_zero, List.set_cons_succ]
            refine wpZ_one (i := 7) (oi := { dst := some 37, op := Go.Op.call { callee := Go.Callee.value (Go.Operand.func 8), args := #[Go.Operand.tmp 30, Go.Operand.tmp 31, Go.Operand.tmp 36], argTypes := #[24, 40, 9] }, type := 27, pos := "law.go:215", after := #[{ on := 0, ground := Go.Ground.data }, { on := 1, ground := Go.Ground.data }, { on := 6, ground := Go.Ground.data }, { on := 1, ground := Go.Ground.chain }], guard := none }) rfl (by kernel_rfl) (fun K hK => ?_)
            go_simp; clear hHeld; refine (mk5 _ _ MF wF _ hp rF HF.out.2.1 HF.out.2.2.1 HF.out.2.2.2 (by first | exact Below.refl _ _ | exact (Below.refl wF.heap.size wF).alloc (Nat.le_refl _) _)).mono ?_; rintro e wM ⟨rfl, hbM, MM, hMM, RM⟩; have hs2 : wF.heap.size ≤ wM.heap.size := Nat.le_trans (by first | exact Nat.le_refl _ | (simp <;> omega)) hbM.size; have hs1 : wr.heap.size ≤ wF.heap.size := (by first | exact hsz | (have h9 := hsz; omega)); have hsz := Nat.le_trans hs1 hs2; have hbX : Below W.heap.size W wM := HF.out.1.trans (Below.trans (by first | exact Below.refl _ _ | exact (Below.refl _ wF).alloc HF.out.1.size _) (hbM.mono HW.out)); have HM := Lib.hid (And.intro hbX (And.intro hMM RM)); clear hbM hMM RM hbX hs2; go_wp2_with fail
            refine hK.out _ _ (fun _ => by (first | exact hsz | exact Nat.le_refl _ | (have h9 := hs1; simp <;> omega))) (fun hh => ?_)
            have hHeld := hh rfl
            clear hK K
            try simp only [Act.put, List.setIfInBounds_toArray, List.set_cons_zero, List.set_cons_succ]
            (refine wpZ_take (i := 8) (oi := { dst := some 29, op := Go.Op.move (Go.Operand.tmp 37), type := 27, pos := "law.go:215", after := #[{ on := 7, ground := Go.Ground.data }], guard := none }) (v := ?_) rfl (by kernel_rfl) (fun _ _ _ h => h) (by assumption) (Or.inl ⟨by rfl, ?_⟩) ?_; rotate_left 1; · ((intro w hSw; (try dsimp only at hSw); go_split_ands; go_simp) <;> (try with_reducible rfl)))
            try simp only [Act.put, List.setIfInBounds_toArray, List.set_cons_zero, List.set_cons_succ]
            (refine wpZ_take (i := 9) (oi := { dst := some 38, op := Go.Op.extract (Go.Operand.tmp 29) 0, type := 3, pos := "law.go:215", after := #[{ on := 8, ground := Go.Ground.data }], guard := none }) (v := ?_) rfl (by kernel_rfl) (fun _ _ _ h => h) (by assumption) (Or.inl ⟨by rfl, ?_⟩) ?_; rotate_left 1; · ((intro w hSw; (try dsimp only at hSw); go_split_ands; go_simp) <;> (try with_reducible rfl)))
            try simp only [Act.put, List.setIfInBounds_toArray, List.set_cons_zero, List.set_cons_succ]
            (refine wpZ_take (i := 10) (oi := { dst := some 39, op := Go.Op.extract (Go.Operand.tmp 29) 1, type := 26, pos := "law.go:215", after := #[{ on := 8, ground := Go.Ground.data }, { on := 11, ground := Go.Ground.gcOnly Go.Departure.lateStores }], guard := none }) (v := ?_) rfl (by kernel_rfl) (fun _ _ _ h => h) (by assumption) (Or.inl ⟨by rfl, ?_⟩) ?_; rotate_left 1; · ((intro w hSw; (try dsimp only at hSw); go_split_ands; go_simp) <;> (try with_reducible rfl)))
            try simp only [Act.put, List.setIfInBounds_toArray, List.set_cons_zero, List.set_cons_succ]
            (refine wpZ_take (i := 11) (oi := { dst := some 8, op := Go.Op.assign (Go.Operand.tmp 38), type := 3, pos := "law.go:215", after := #[{ on := 9, ground := Go.Ground.data }, { on := 7, ground := Go.Ground.chain }, { on := 0, ground := Go.Ground.phase }, { on := 1, ground := Go.Ground.phase }, { on := 2, ground := Go.Ground.phase }, { on := 3, ground := Go.Ground.phase }, { on := 4, ground := Go.Ground.phase }, { on := 5, ground := Go.Ground.phase }, { on := 6, ground := Go.Ground.phase }, { on := 7, ground := Go.Ground.phase }, { on := 8, ground := Go.Ground.phase }, { on := 9, ground := Go.Ground.phase }, { on := 10, ground := Go.Ground.textOnly Go.Departure.lateStores }], guard := none }) (v := ?_) rfl (by kernel_rfl) (fun _ _ _ h => h) (by assumption) (Or.inl ⟨by rfl, ?_⟩) ?_; rotate_left 1; · ((intro w hSw; (try dsimp only at hSw); go_split_ands; go_simp) <;> (try with_reducible rfl)))
            try simp only [Act.put, List.setIfInBounds_toArray, List.set_cons_zero, List.set_cons_succ]
            refine wpZ_one (i := 12) (oi := { dst := some 9, op := Go.Op.assign (Go.Operand.tmp 39), type := 26, pos := "law.go:215", after := #[{ on := 10, ground := Go.Ground.data }, { on := 11, ground := Go.Ground.chain }, { on := 0, ground := Go.Ground.phase }, { on := 1, ground := Go.Ground.phase }, { on := 2, ground := Go.Ground.phase }, { on := 3, ground := Go.Ground.phase }, { on := 4, ground := Go.Ground.phase }, { on := 5, ground := Go.Ground.phase }, { on := 6, ground := Go.Ground.phase }, { on := 7, ground := Go.Ground.phase }, { on := 8, ground := Go.Ground.phase }, { on := 9, ground := Go.Ground.phase }, { on := 10, ground := Go.Ground.phase }, { on := 11, ground := Go.Ground.phase }], guard := none }) rfl (by kernel_rfl) (fun K hK => ?_)
            go_simp
            refine hK.out _ _ (fun h => by simp at h) (fun _ => ?_)
            clear hK K
            try simp only [Act.put, List.setIfInBounds_toArray, List.set_cons_zero, List.set_cons_succ]
            refine wpZ_done (by kernel_rfl) ?_ _
            have t1 : IntKind.i64.wrap 50 = 50 := (by decide); have t2 : IntKind.u64.wrap 50 = 50 := (by decide); have t3 : IntKind.u64.wrap 5 = 5 := (by decide); clear HF HKF; go_wp2_with fail; refine (iv5 _ _ MM wM wM hp _ HM.out.2.1 HM.out.2.2 (Below.refl _ _)).mono ?_; rintro e wI ⟨rfl, hbI, MI, hMI, RI⟩; have HN := Lib.hid (And.intro (HM.out.1.trans (hbI.mono HW.out)) (And.intro hMI RI)); clear hbI hMI RI; go_wp2; go_roundw; (case rel => (first | exact ⟨6, (by have := HLT.out; omega), (by first | rfl | go_num), HN.out.1, MI, HN.out.2⟩ | ((repeat (apply Exists.intro)); refine And.intro ?_ ?_; rotate_left; (focus rfl); (focus exact ⟨6, (by have := HLT.out; omega), (by first | rfl | go_num), HN.out.1, MI, HN.out.2⟩)))); (case measure => (simp [intOf]; (try (have := HLT.out; omega))))
          ·
            go_simp; have hs1 := hHeld; have hcur := (Below.refl wr.heap.size wr).alloc (Nat.le_refl _) (.cells #[.int .u8 114, .int .u8 102] 5); have hlt5 : wr.heap.size < (wr.alloc (.cells #[.int .u8 114, .int .u8 102] 5)).drew.heap.size := (by show wr.heap.size < (wr.alloc _).heap.size; simp)
            refine hK.out _ _ (fun _ => by (first | exact hsz | exact Nat.le_refl _ | (have h9 := hs1; simp <;> omega))) (fun hh => ?_)
            have hHeld := hh rfl
            clear hK K
            try simp only [Act.put, List.setIfInBounds_toArray, List.set_cons_zero, List.set_cons_succ]
            refine wpZ_two (i := 1) (j := 6) (oi := { dst := some 31, op := Go.Op.call { callee := Go.Callee.value (Go.Operand.func 9), args := #[], argTypes := #[] }, type := 40, pos := "law.go:215", after := #[], guard := none }) (oj := { dst := some 36, op := Go.Op.convert 22 9 (Go.Operand.tmp 35), type := 9, pos := "law.go:215", after := #[{ on := 5, ground := Go.Ground.data }], guard := none }) rfl rfl (by kernel_rfl) (fun K hK => ?_) (fun K hK => ?_)
            ·
              go_simp; have hs1 := hHeld; refine (fx5 _ _ _ wr _ hp HR.out.2.1 HR.out.2.2 (by first | exact ⟨rfl, rfl, rfl, Nat.le_refl _, fun _ _ => rfl⟩ | exact ⟨hcur.1, hcur.2, hcur.3, hcur.4, hcur.5⟩)).mono ?_; rintro e wF ⟨rF, MF, rfl, hbF, hkF, hMF, RF, vF⟩; have hsz : wr.heap.size ≤ wF.heap.size := Nat.le_trans hs1 hbF.size; have HKF := Lib.hid hkF; have hbW : Below W.heap.size W wF := HR.out.1.trans (Below.trans (by first | exact ⟨rfl, rfl, rfl, Nat.le_refl _, fun _ _ => rfl⟩ | exact Below.mono (B := wr.heap.size) ⟨hcur.1, hcur.2, hcur.3, hcur.4, hcur.5⟩ HR.out.1.size) (hbF.mono HW.out)); have HF := Lib.hid (And.intro hbW (And.intro hMF (And.intro RF vF))); clear hbF hbW hMF RF vF hkF hs1 hHeld; go_wp2_with fail
              refine hK.out _ _ (fun _ => by (first | exact hsz | exact Nat.le_refl _ | (have h9 := hs1; simp <;> omega))) (fun hh => ?_)
              have hHeld := hh rfl
              clear hK K
              try simp only [Act.put, List.setIfInBounds_toArray, List.set_cons_zero, List.set_cons_succ]
              refine wpZ_one (i := 6) (oi := { dst := some 36, op := Go.Op.convert 22 9 (Go.Operand.tmp 35), type := 9, pos := "law.go:215", after := #[{ on := 5, ground := Go.Ground.data }], guard := none }) rfl (by kernel_rfl) (fun K hK => ?_)
              have hs1 := hHeld; have hsz := hHeld; (first | (have hcv := convK 102 (by decide) (HKF.out wr.heap.size (Nat.le_refl _) hlt5)) | (have hcv := convN wF 102 102 (by decide)) | (have hcv := convD wr 102 102 (by decide))); go_simp; clear hcv
              refine hK.out _ _ (fun _ => by (first | exact hsz | exact Nat.le_refl _ | (have h9 := hs1; simp <;> omega))) (fun hh => ?_)
              have hHeld := hh rfl
              clear hK K
              try simp only [Act.put, List.setIfInBounds_toArray, List.set_cons_zero, List.set_cons_succ]
              refine wpZ_one (i := 7) (oi := { dst := some 37, op := Go.Op.call { callee := Go.Callee.value (Go.Operand.func 8), args := #[Go.Operand.tmp 30, Go.Operand.tmp 31, Go.Operand.tmp 36], argTypes := #[24, 40, 9] }, type := 27, pos := "law.go:215", after := #[{ on := 0, ground := Go.Ground.data }, { on := 1, ground := Go.Ground.data }, { on := 6, ground := Go.Ground.data }, { on := 1, ground := Go.Ground.chain }], guard := none }) rfl (by kernel_rfl) (fun K hK => ?_)
              go_simp; clear hHeld; refine (mk5 _ _ MF wF _ hp rF HF.out.2.1 HF.out.2.2.1 HF.out.2.2.2 (by first | exact Below.refl _ _ | exact (Below.refl wF.heap.size wF).alloc (Nat.le_refl _) _)).mono ?_; rintro e wM ⟨rfl, hbM, MM, hMM, RM⟩; have hs2 : wF.heap.size ≤ wM.heap.size := Nat.le_trans (by first | exact Nat.le_refl _ | (simp <;> omega)) hbM.size; have hs1 : wr.heap.size ≤ wF.heap.size := (by first | exact hsz | (have h9 := hsz; omega)); have hsz := Nat.le_trans hs1 hs2; have hbX : Below W.heap.size W wM := HF.out.1.trans (Below.trans (by first | exact Below.refl _ _ | exact (Below.refl _ wF).alloc HF.out.1.size _) (hbM.mono HW.out)); have HM := Lib.hid (And.intro hbX (And.intro hMM RM)); clear hbM hMM RM hbX hs2; go_wp2_with fail
              refine hK.out _ _ (fun _ => by (first | exact hsz | exact Nat.le_refl _ | (have h9 := hs1; simp <;> omega))) (fun hh => ?_)
              have hHeld := hh rfl
              clear hK K
              try simp only [Act.put, List.setIfInBounds_toArray, List.set_cons_zero, List.set_cons_succ]
              (refine wpZ_take (i := 8) (oi := { dst := some 29, op := Go.Op.move (Go.Operand.tmp 37), type := 27, pos := "law.go:215", after := #[{ on := 7, ground := Go.Ground.data }], guard := none }) (v := ?_) rfl (by kernel_rfl) (fun _ _ _ h => h) (by assumption) (Or.inl ⟨by rfl, ?_⟩) ?_; rotate_left 1; · ((intro w hSw; (try dsimp only at hSw); go_split_ands; go_simp) <;> (try with_reducible rfl)))
              try simp only [Act.put, List.setIfInBounds_toArray, List.set_cons_zero, List.set_cons_succ]
              (refine wpZ_take (i := 9) (oi := { dst := some 38, op := Go.Op.extract (Go.Operand.tmp 29) 0, type := 3, pos := "law.go:215", after := #[{ on := 8, ground := Go.Ground.data }], guard := none }) (v := ?_) rfl (by kernel_rfl) (fun _ _ _ h => h) (by assumption) (Or.inl ⟨by rfl, ?_⟩) ?_; rotate_left 1; · ((intro w hSw; (try dsimp only at hSw); go_split_ands; go_simp) <;> (try with_reducible rfl)))
              try simp only [Act.put, List.setIfInBounds_toArray, List.set_cons_zero, List.set_cons_succ]
              (refine wpZ_take (i := 10) (oi := { dst := some 39, op := Go.Op.extract (Go.Operand.tmp 29) 1, type := 26, pos := "law.go:215", after := #[{ on := 8, ground := Go.Ground.data }, { on := 11, ground := Go.Ground.gcOnly Go.Departure.lateStores }], guard := none }) (v := ?_) rfl (by kernel_rfl) (fun _ _ _ h => h) (by assumption) (Or.inl ⟨by rfl, ?_⟩) ?_; rotate_left 1; · ((intro w hSw; (try dsimp only at hSw); go_split_ands; go_simp) <;> (try with_reducible rfl)))
              try simp only [Act.put, List.setIfInBounds_toArray, List.set_cons_zero, List.set_cons_succ]
              (refine wpZ_take (i := 11) (oi := { dst := some 8, op := Go.Op.assign (Go.Operand.tmp 38), type := 3, pos := "law.go:215", after := #[{ on := 9, ground := Go.Ground.data }, { on := 7, ground := Go.Ground.chain }, { on := 0, ground := Go.Ground.phase }, { on := 1, ground := Go.Ground.phase }, { on := 2, ground := Go.Ground.phase }, { on := 3, ground := Go.Ground.phase }, { on := 4, ground := Go.Ground.phase }, { on := 5, ground := Go.Ground.phase }, { on := 6, ground := Go.Ground.phase }, { on := 7, ground := Go.Ground.phase }, { on := 8, ground := Go.Ground.phase }, { on := 9, ground := Go.Ground.phase }, { on := 10, ground := Go.Ground.textOnly Go.Departure.lateStores }], guard := none }) (v := ?_) rfl (by kernel_rfl) (fun _ _ _ h => h) (by assumption) (Or.inl ⟨by rfl, ?_⟩) ?_; rotate_left 1; · ((intro w hSw; (try dsimp only at hSw); go_split_ands; go_simp) <;> (try with_reducible rfl)))
              try simp only [Act.put, List.setIfInBounds_toArray, List.set_cons_zero, List.set_cons_succ]
              refine wpZ_one (i := 12) (oi := { dst := some 9, op := Go.Op.assign (Go.Operand.tmp 39), type := 26, pos := "law.go:215", after := #[{ on := 10, ground := Go.Ground.data }, { on := 11, ground := Go.Ground.chain }, { on := 0, ground := Go.Ground.phase }, { on := 1, ground := Go.Ground.phase }, { on := 2, ground := Go.Ground.phase }, { on := 3, ground := Go.Ground.phase }, { on := 4, ground := Go.Ground.phase }, { on := 5, ground := Go.Ground.phase }, { on := 6, ground := Go.Ground.phase }, { on := 7, ground := Go.Ground.phase }, { on := 8, ground := Go.Ground.phase }, { on := 9, ground := Go.Ground.phase }, { on := 10, ground := Go.Ground.phase }, { on := 11, ground := Go.Ground.phase }], guard := none }) rfl (by kernel_rfl) (fun K hK => ?_)
              go_simp
              refine hK.out _ _ (fun h => by simp at h) (fun _ => ?_)
              clear hK K
              try simp only [Act.put, List.setIfInBounds_toArray, List.set_cons_zero, List.set_cons_succ]
              refine wpZ_done (by kernel_rfl) ?_ _
              have t1 : IntKind.i64.wrap 50 = 50 := (by decide); have t2 : IntKind.u64.wrap 50 = 50 := (by decide); have t3 : IntKind.u64.wrap 5 = 5 := (by decide); clear HF HKF; go_wp2_with fail; refine (iv5 _ _ MM wM wM hp _ HM.out.2.1 HM.out.2.2 (Below.refl _ _)).mono ?_; rintro e wI ⟨rfl, hbI, MI, hMI, RI⟩; have HN := Lib.hid (And.intro (HM.out.1.trans (hbI.mono HW.out)) (And.intro hMI RI)); clear hbI hMI RI; go_wp2; go_roundw; (case rel => (first | exact ⟨6, (by have := HLT.out; omega), (by first | rfl | go_num), HN.out.1, MI, HN.out.2⟩ | ((repeat (apply Exists.intro)); refine And.intro ?_ ?_; rotate_left; (focus rfl); (focus exact ⟨6, (by have := HLT.out; omega), (by first | rfl | go_num), HN.out.1, MI, HN.out.2⟩)))); (case measure => (simp [intOf]; (try (have := HLT.out; omega))))
            ·
              have hs1 := hHeld; have hsz := hHeld; (first | (have hcv := convK 102 (by decide) (HKF.out wr.heap.size (Nat.le_refl _) hlt5)) | (have hcv := convN wF 102 102 (by decide)) | (have hcv := convD wr 102 102 (by decide))); go_simp; clear hcv
              refine hK.out _ _ (fun _ => by (first | exact hsz | exact Nat.le_refl _ | (have h9 := hs1; simp <;> omega))) (fun hh => ?_)
              have hHeld := hh rfl
              clear hK K
              try simp only [Act.put, List.setIfInBounds_toArray, List.set_cons_zero, List.set_cons_succ]
              refine wpZ_one (i := 1) (oi := { dst := some 31, op := Go.Op.call { callee := Go.Callee.value (Go.Operand.func 9), args := #[], argTypes := #[] }, type := 40, pos := "law.go:215", after := #[], guard := none }) rfl (by kernel_rfl) (fun K hK => ?_)
              go_simp; have hs1 := hHeld; refine (fx5 _ _ _ wr _ hp HR.out.2.1 HR.out.2.2 (by first | exact ⟨rfl, rfl, rfl, Nat.le_refl _, fun _ _ => rfl⟩ | exact ⟨hcur.1, hcur.2, hcur.3, hcur.4, hcur.5⟩)).mono ?_; rintro e wF ⟨rF, MF, rfl, hbF, hkF, hMF, RF, vF⟩; have hsz : wr.heap.size ≤ wF.heap.size := Nat.le_trans hs1 hbF.size; have HKF := Lib.hid hkF; have hbW : Below W.heap.size W wF := HR.out.1.trans (Below.trans (by first | exact ⟨rfl, rfl, rfl, Nat.le_refl _, fun _ _ => rfl⟩ | exact Below.mono (B := wr.heap.size) ⟨hcur.1, hcur.2, hcur.3, hcur.4, hcur.5⟩ HR.out.1.size) (hbF.mono HW.out)); have HF := Lib.hid (And.intro hbW (And.intro hMF (And.intro RF vF))); clear hbF hbW hMF RF vF hkF hs1 hHeld; go_wp2_with fail
              refine hK.out _ _ (fun _ => by (first | exact hsz | exact Nat.le_refl _ | (have h9 := hs1; simp <;> omega))) (fun hh => ?_)
              have hHeld := hh rfl
              clear hK K
              try simp only [Act.put, List.setIfInBounds_toArray, List.set_cons_zero, List.set_cons_succ]
              refine wpZ_one (i := 7) (oi := { dst := some 37, op := Go.Op.call { callee := Go.Callee.value (Go.Operand.func 8), args := #[Go.Operand.tmp 30, Go.Operand.tmp 31, Go.Operand.tmp 36], argTypes := #[24, 40, 9] }, type := 27, pos := "law.go:215", after := #[{ on := 0, ground := Go.Ground.data }, { on := 1, ground := Go.Ground.data }, { on := 6, ground := Go.Ground.data }, { on := 1, ground := Go.Ground.chain }], guard := none }) rfl (by kernel_rfl) (fun K hK => ?_)
              go_simp; clear hHeld; refine (mk5 _ _ MF wF _ hp rF HF.out.2.1 HF.out.2.2.1 HF.out.2.2.2 (by first | exact Below.refl _ _ | exact (Below.refl wF.heap.size wF).alloc (Nat.le_refl _) _)).mono ?_; rintro e wM ⟨rfl, hbM, MM, hMM, RM⟩; have hs2 : wF.heap.size ≤ wM.heap.size := Nat.le_trans (by first | exact Nat.le_refl _ | (simp <;> omega)) hbM.size; have hs1 : wr.heap.size ≤ wF.heap.size := (by first | exact hsz | (have h9 := hsz; omega)); have hsz := Nat.le_trans hs1 hs2; have hbX : Below W.heap.size W wM := HF.out.1.trans (Below.trans (by first | exact Below.refl _ _ | exact (Below.refl _ wF).alloc HF.out.1.size _) (hbM.mono HW.out)); have HM := Lib.hid (And.intro hbX (And.intro hMM RM)); clear hbM hMM RM hbX hs2; go_wp2_with fail
              refine hK.out _ _ (fun _ => by (first | exact hsz | exact Nat.le_refl _ | (have h9 := hs1; simp <;> omega))) (fun hh => ?_)
              have hHeld := hh rfl
              clear hK K
              try simp only [Act.put, List.setIfInBounds_toArray, List.set_cons_zero, List.set_cons_succ]
              (refine wpZ_take (i := 8) (oi := { dst := some 29, op := Go.Op.move (Go.Operand.tmp 37), type := 27, pos := "law.go:215", after := #[{ on := 7, ground := Go.Ground.data }], guard := none }) (v := ?_) rfl (by kernel_rfl) (fun _ _ _ h => h) (by assumption) (Or.inl ⟨by rfl, ?_⟩) ?_; rotate_left 1; · ((intro w hSw; (try dsimp only at hSw); go_split_ands; go_simp) <;> (try with_reducible rfl)))
              try simp only [Act.put, List.setIfInBounds_toArray, List.set_cons_zero, List.set_cons_succ]
              (refine wpZ_take (i := 9) (oi := { dst := some 38, op := Go.Op.extract (Go.Operand.tmp 29) 0, type := 3, pos := "law.go:215", after := #[{ on := 8, ground := Go.Ground.data }], guard := none }) (v := ?_) rfl (by kernel_rfl) (fun _ _ _ h => h) (by assumption) (Or.inl ⟨by rfl, ?_⟩) ?_; rotate_left 1; · ((intro w hSw; (try dsimp only at hSw); go_split_ands; go_simp) <;> (try with_reducible rfl)))
              try simp only [Act.put, List.setIfInBounds_toArray, List.set_cons_zero, List.set_cons_succ]
              (refine wpZ_take (i := 10) (oi := { dst := some 39, op := Go.Op.extract (Go.Operand.tmp 29) 1, type := 26, pos := "law.go:215", after := #[{ on := 8, ground := Go.Ground.data }, { on := 11, ground := Go.Ground.gcOnly Go.Departure.lateStores }], guard := none }) (v := ?_) rfl (by kernel_rfl) (fun _ _ _ h => h) (by assumption) (Or.inl ⟨by rfl, ?_⟩) ?_; rotate_left 1; · ((intro w hSw; (try dsimp only at hSw); go_split_ands; go_simp) <;> (try with_reducible rfl)))
              try simp only [Act.put, List.setIfInBounds_toArray, List.set_cons_zero, List.set_cons_succ]
              (refine wpZ_take (i := 11) (oi := { dst := some 8, op := Go.Op.assign (Go.Operand.tmp 38), type := 3, pos := "law.go:215", after := #[{ on := 9, ground := Go.Ground.data }, { on := 7, ground := Go.Ground.chain }, { on := 0, ground := Go.Ground.phase }, { on := 1, ground := Go.Ground.phase }, { on := 2, ground := Go.Ground.phase }, { on := 3, ground := Go.Ground.phase }, { on := 4, ground := Go.Ground.phase }, { on := 5, ground := Go.Ground.phase }, { on := 6, ground := Go.Ground.phase }, { on := 7, ground := Go.Ground.phase }, { on := 8, ground := Go.Ground.phase }, { on := 9, ground := Go.Ground.phase }, { on := 10, ground := Go.Ground.textOnly Go.Departure.lateStores }], guard := none }) (v := ?_) rfl (by kernel_rfl) (fun _ _ _ h => h) (by assumption) (Or.inl ⟨by rfl, ?_⟩) ?_; rotate_left 1; · ((intro w hSw; (try dsimp only at hSw); go_split_ands; go_simp) <;> (try with_reducible rfl)))
              try simp only [Act.put, List.setIfInBounds_toArray, List.set_cons_zero, List.set_cons_succ]
              refine wpZ_one (i := 12) (oi := { dst := some 9, op := Go.Op.assign (Go.Operand.tmp 39), type := 26, pos := "law.go:215", after := #[{ on := 10, ground := Go.Ground.data }, { on := 11, ground := Go.Ground.chain }, { on := 0, ground := Go.Ground.phase }, { on := 1, ground := Go.Ground.phase }, { on := 2, ground := Go.Ground.phase }, { on := 3, ground := Go.Ground.phase }, { on := 4, ground := Go.Ground.phase }, { on := 5, ground := Go.Ground.phase }, { on := 6, ground := Go.Ground.phase }, { on := 7, ground := Go.Ground.phase }, { on := 8, ground := Go.Ground.phase }, { on := 9, ground := Go.Ground.phase }, { on := 10, ground := Go.Ground.phase }, { on := 11, ground := Go.Ground.phase }], guard := none }) rfl (by kernel_rfl) (fun K hK => ?_)
              go_simp
              refine hK.out _ _ (fun h => by simp at h) (fun _ => ?_)
              clear hK K
              try simp only [Act.put, List.setIfInBounds_toArray, List.set_cons_zero, List.set_cons_succ]
              refine wpZ_done (by kernel_rfl) ?_ _
              have t1 : IntKind.i64.wrap 50 = 50 := (by decide); have t2 : IntKind.u64.wrap 50 = 50 := (by decide); have t3 : IntKind.u64.wrap 5 = 5 := (by decide); clear HF HKF; go_wp2_with fail; refine (iv5 _ _ MM wM wM hp _ HM.out.2.1 HM.out.2.2 (Below.refl _ _)).mono ?_; rintro e wI ⟨rfl, hbI, MI, hMI, RI⟩; have HN := Lib.hid (And.intro (HM.out.1.trans (hbI.mono HW.out)) (And.intro hMI RI)); clear hbI hMI RI; go_wp2; go_roundw; (case rel => (first | exact ⟨6, (by have := HLT.out; omega), (by first | rfl | go_num), HN.out.1, MI, HN.out.2⟩ | ((repeat (apply Exists.intro)); refine And.intro ?_ ?_; rotate_left; (focus rfl); (focus exact ⟨6, (by have := HLT.out; omega), (by first | rfl | go_num), HN.out.1, MI, HN.out.2⟩)))); (case measure => (simp [intOf]; (try (have := HLT.out; omega))))
        · have HLT := Lib.hid hlt
          have d0 : decide ((6 : Int) < (kk : Int)) = true := decide_eq_true (by omega)
          have d0n : decide (6 < kk) = true := decide_eq_true (by omega)
          have hch : IntKind.u8.wrap (IntKind.i64.wrap 103) = 103 := by decide
          clear hlt hj
          go_upto_region 10 with (fail)
          refine wp_region_z (fun w' => wr.heap.size ≤ w'.heap.size) (fun j => j == 12) (by kernel_rfl) ?_ (fun hHeld => ?_)
          · first | exact hsz | exact Nat.le_refl _ | (have h9 := hs1; simp <;> omega)
          (refine wpZ_take (i := 0) (oi := { dst := some 30, op := Go.Op.move (Go.Operand.tmp 5), type := 24, pos := "law.go:215", after := #[], guard := none }) (v := ?_) rfl (by kernel_rfl) (fun _ _ _ h => h) (by assumption) (Or.inl ⟨by rfl, ?_⟩) ?_; rotate_left 1; · ((intro w hSw; (try dsimp only at hSw); go_split_ands; go_simp) <;> (try with_reducible rfl)))
          try simp only [Act.put, List.setIfInBounds_toArray, List.set_cons_zero, List.set_cons_succ]
          (refine wpZ_take (i := 2) (oi := { dst := some 32, op := Go.Op.move (Go.Operand.tmp 7), type := 3, pos := "law.go:215", after := #[], guard := none }) (v := ?_) rfl (by kernel_rfl) (fun _ _ _ h => h) (by assumption) (Or.inl ⟨by rfl, ?_⟩) ?_; rotate_left 1; · ((intro w hSw; (try dsimp only at hSw); go_split_ands; go_simp) <;> (try with_reducible rfl)))
          try simp only [Act.put, List.setIfInBounds_toArray, List.set_cons_zero, List.set_cons_succ]
          (refine wpZ_take (i := 3) (oi := { dst := some 33, op := Go.Op.binOp Go.BinOp.add 3 (Go.Operand.const (Go.Value.int Go.IntKind.i64 97)) (Go.Operand.tmp 32) 3, type := 3, pos := "law.go:215", after := #[{ on := 2, ground := Go.Ground.data }], guard := none }) (v := ?_) rfl (by kernel_rfl) (fun _ _ _ h => h) (by assumption) (Or.inl ⟨by rfl, ?_⟩) ?_; rotate_left 1; · ((intro w hSw; (try dsimp only at hSw); go_split_ands; go_simp) <;> (try with_reducible rfl)))
          try simp only [Act.put, List.setIfInBounds_toArray, List.set_cons_zero, List.set_cons_succ]
          (refine wpZ_take (i := 4) (oi := { dst := some 34, op := Go.Op.convert 3 5 (Go.Operand.tmp 33), type := 5, pos := "law.go:215", after := #[{ on := 3, ground := Go.Ground.data }], guard := none }) (v := ?_) rfl (by kernel_rfl) (fun _ _ _ h => h) (by assumption) (Or.inl ⟨by rfl, ?_⟩) ?_; rotate_left 1; · ((intro w hSw; (try dsimp only at hSw); go_split_ands; go_simp) <;> (try with_reducible rfl)))
          try simp only [Act.put, List.setIfInBounds_toArray, List.set_cons_zero, List.set_cons_succ]
          refine wpZ_two (i := 1) (j := 5) (oi := { dst := some 31, op := Go.Op.call { callee := Go.Callee.value (Go.Operand.func 9), args := #[], argTypes := #[] }, type := 40, pos := "law.go:215", after := #[], guard := none }) (oj := { dst := some 35, op := Go.Op.buildSlice 22 2 #[(0, Go.Operand.const (Go.Value.int Go.IntKind.u8 114)), (1, Go.Operand.tmp 34)], type := 22, pos := "law.go:215", after := #[{ on := 4, ground := Go.Ground.data }], guard := none }) rfl rfl (by kernel_rfl) (fun K hK => ?_) (fun K hK => ?_)
          ·
            go_simp; have hs1 := hHeld; refine (fx6 _ _ _ wr _ hp HR.out.2.1 HR.out.2.2 (by first | exact ⟨rfl, rfl, rfl, Nat.le_refl _, fun _ _ => rfl⟩ | exact ⟨hcur.1, hcur.2, hcur.3, hcur.4, hcur.5⟩)).mono ?_; rintro e wF ⟨rF, MF, rfl, hbF, hkF, hMF, RF, vF⟩; have hsz : wr.heap.size ≤ wF.heap.size := Nat.le_trans hs1 hbF.size; have HKF := Lib.hid hkF; have hbW : Below W.heap.size W wF := HR.out.1.trans (Below.trans (by first | exact ⟨rfl, rfl, rfl, Nat.le_refl _, fun _ _ => rfl⟩ | exact Below.mono (B := wr.heap.size) ⟨hcur.1, hcur.2, hcur.3, hcur.4, hcur.5⟩ HR.out.1.size) (hbF.mono HW.out)); have HF := Lib.hid (And.intro hbW (And.intro hMF (And.intro RF vF))); clear hbF hbW hMF RF vF hkF hs1 hHeld; go_wp2_with fail
            refine hK.out _ _ (fun _ => by (first | exact hsz | exact Nat.le_refl _ | (have h9 := hs1; simp <;> omega))) (fun hh => ?_)
            have hHeld := hh rfl
            clear hK K
            try simp only [Act.put, List.setIfInBounds_toArray, List.set_cons_zero, List.set_cons_succ]
            refine wpZ_one (i := 5) (oi := { dst := some 35, op := Go.Op.buildSlice 22 2 #[(0, Go.Operand.const (Go.Value.int Go.IntKind.u8 114)), (1, Go.Operand.tmp 34)], type := 22, pos := "law.go:215", after := #[{ on := 4, ground := Go.Ground.data }], guard := none }) rfl (by kernel_rfl) (fun K hK => ?_)
            go_simp; have hs1 := hHeld; have hcur := (Below.refl wr.heap.size wr).alloc (Nat.le_refl _) (.cells #[.int .u8 114, .int .u8 103] 5); have hlt5 : wr.heap.size < (wr.alloc (.cells #[.int .u8 114, .int .u8 103] 5)).drew.heap.size := (by show wr.heap.size < (wr.alloc _).heap.size; simp)
            refine hK.out _ _ (fun _ => by (first | exact hsz | exact Nat.le_refl _ | (have h9 := hs1; simp <;> omega))) (fun hh => ?_)
            have hHeld := hh rfl
            clear hK K
            try simp only [Act.put, List.setIfInBounds_toArray, List.set_cons_zero, List.set_cons_succ]
            refine wpZ_one (i := 6) (oi := { dst := some 36, op := Go.Op.convert 22 9 (Go.Operand.tmp 35), type := 9, pos := "law.go:215", after := #[{ on := 5, ground := Go.Ground.data }], guard := none }) rfl (by kernel_rfl) (fun K hK => ?_)
            have hs1 := hHeld; have hsz := hHeld; (first | (have hcv := convK 103 (by decide) (HKF.out wr.heap.size (Nat.le_refl _) hlt5)) | (have hcv := convN wF 103 103 (by decide)) | (have hcv := convD wr 103 103 (by decide))); go_simp; clear hcv
            refine hK.out _ _ (fun _ => by (first | exact hsz | exact Nat.le_refl _ | (have h9 := hs1; simp <;> omega))) (fun hh => ?_)
            have hHeld := hh rfl
            clear hK K
            try simp only [Act.put, List.setIfInBounds_toArray, List.set_cons_zero, List.set_cons_succ]
            refine wpZ_one (i := 7) (oi := { dst := some 37, op := Go.Op.call { callee := Go.Callee.value (Go.Operand.func 8), args := #[Go.Operand.tmp 30, Go.Operand.tmp 31, Go.Operand.tmp 36], argTypes := #[24, 40, 9] }, type := 27, pos := "law.go:215", after := #[{ on := 0, ground := Go.Ground.data }, { on := 1, ground := Go.Ground.data }, { on := 6, ground := Go.Ground.data }, { on := 1, ground := Go.Ground.chain }], guard := none }) rfl (by kernel_rfl) (fun K hK => ?_)
            go_simp; clear hHeld; refine (mk6 _ _ MF wF _ hp rF HF.out.2.1 HF.out.2.2.1 HF.out.2.2.2 (by first | exact Below.refl _ _ | exact (Below.refl wF.heap.size wF).alloc (Nat.le_refl _) _)).mono ?_; rintro e wM ⟨rfl, hbM, MM, hMM, RM⟩; have hs2 : wF.heap.size ≤ wM.heap.size := Nat.le_trans (by first | exact Nat.le_refl _ | (simp <;> omega)) hbM.size; have hs1 : wr.heap.size ≤ wF.heap.size := (by first | exact hsz | (have h9 := hsz; omega)); have hsz := Nat.le_trans hs1 hs2; have hbX : Below W.heap.size W wM := HF.out.1.trans (Below.trans (by first | exact Below.refl _ _ | exact (Below.refl _ wF).alloc HF.out.1.size _) (hbM.mono HW.out)); have HM := Lib.hid (And.intro hbX (And.intro hMM RM)); clear hbM hMM RM hbX hs2; go_wp2_with fail
            refine hK.out _ _ (fun _ => by (first | exact hsz | exact Nat.le_refl _ | (have h9 := hs1; simp <;> omega))) (fun hh => ?_)
            have hHeld := hh rfl
            clear hK K
            try simp only [Act.put, List.setIfInBounds_toArray, List.set_cons_zero, List.set_cons_succ]
            (refine wpZ_take (i := 8) (oi := { dst := some 29, op := Go.Op.move (Go.Operand.tmp 37), type := 27, pos := "law.go:215", after := #[{ on := 7, ground := Go.Ground.data }], guard := none }) (v := ?_) rfl (by kernel_rfl) (fun _ _ _ h => h) (by assumption) (Or.inl ⟨by rfl, ?_⟩) ?_; rotate_left 1; · ((intro w hSw; (try dsimp only at hSw); go_split_ands; go_simp) <;> (try with_reducible rfl)))
            try simp only [Act.put, List.setIfInBounds_toArray, List.set_cons_zero, List.set_cons_succ]
            (refine wpZ_take (i := 9) (oi := { dst := some 38, op := Go.Op.extract (Go.Operand.tmp 29) 0, type := 3, pos := "law.go:215", after := #[{ on := 8, ground := Go.Ground.data }], guard := none }) (v := ?_) rfl (by kernel_rfl) (fun _ _ _ h => h) (by assumption) (Or.inl ⟨by rfl, ?_⟩) ?_; rotate_left 1; · ((intro w hSw; (try dsimp only at hSw); go_split_ands; go_simp) <;> (try with_reducible rfl)))
            try simp only [Act.put, List.setIfInBounds_toArray, List.set_cons_zero, List.set_cons_succ]
            (refine wpZ_take (i := 10) (oi := { dst := some 39, op := Go.Op.extract (Go.Operand.tmp 29) 1, type := 26, pos := "law.go:215", after := #[{ on := 8, ground := Go.Ground.data }, { on := 11, ground := Go.Ground.gcOnly Go.Departure.lateStores }], guard := none }) (v := ?_) rfl (by kernel_rfl) (fun _ _ _ h => h) (by assumption) (Or.inl ⟨by rfl, ?_⟩) ?_; rotate_left 1; · ((intro w hSw; (try dsimp only at hSw); go_split_ands; go_simp) <;> (try with_reducible rfl)))
            try simp only [Act.put, List.setIfInBounds_toArray, List.set_cons_zero, List.set_cons_succ]
            (refine wpZ_take (i := 11) (oi := { dst := some 8, op := Go.Op.assign (Go.Operand.tmp 38), type := 3, pos := "law.go:215", after := #[{ on := 9, ground := Go.Ground.data }, { on := 7, ground := Go.Ground.chain }, { on := 0, ground := Go.Ground.phase }, { on := 1, ground := Go.Ground.phase }, { on := 2, ground := Go.Ground.phase }, { on := 3, ground := Go.Ground.phase }, { on := 4, ground := Go.Ground.phase }, { on := 5, ground := Go.Ground.phase }, { on := 6, ground := Go.Ground.phase }, { on := 7, ground := Go.Ground.phase }, { on := 8, ground := Go.Ground.phase }, { on := 9, ground := Go.Ground.phase }, { on := 10, ground := Go.Ground.textOnly Go.Departure.lateStores }], guard := none }) (v := ?_) rfl (by kernel_rfl) (fun _ _ _ h => h) (by assumption) (Or.inl ⟨by rfl, ?_⟩) ?_; rotate_left 1; · ((intro w hSw; (try dsimp only at hSw); go_split_ands; go_simp) <;> (try with_reducible rfl)))
            try simp only [Act.put, List.setIfInBounds_toArray, List.set_cons_zero, List.set_cons_succ]
            refine wpZ_one (i := 12) (oi := { dst := some 9, op := Go.Op.assign (Go.Operand.tmp 39), type := 26, pos := "law.go:215", after := #[{ on := 10, ground := Go.Ground.data }, { on := 11, ground := Go.Ground.chain }, { on := 0, ground := Go.Ground.phase }, { on := 1, ground := Go.Ground.phase }, { on := 2, ground := Go.Ground.phase }, { on := 3, ground := Go.Ground.phase }, { on := 4, ground := Go.Ground.phase }, { on := 5, ground := Go.Ground.phase }, { on := 6, ground := Go.Ground.phase }, { on := 7, ground := Go.Ground.phase }, { on := 8, ground := Go.Ground.phase }, { on := 9, ground := Go.Ground.phase }, { on := 10, ground := Go.Ground.phase }, { on := 11, ground := Go.Ground.phase }], guard := none }) rfl (by kernel_rfl) (fun K hK => ?_)
            go_simp
            refine hK.out _ _ (fun h => by simp at h) (fun _ => ?_)
            clear hK K
            try simp only [Act.put, List.setIfInBounds_toArray, List.set_cons_zero, List.set_cons_succ]
            refine wpZ_done (by kernel_rfl) ?_ _
            have t1 : IntKind.i64.wrap 60 = 60 := (by decide); have t2 : IntKind.u64.wrap 60 = 60 := (by decide); have t3 : IntKind.u64.wrap 6 = 6 := (by decide); clear HF HKF; go_wp2_with fail; refine (iv6 _ _ MM wM wM hp _ HM.out.2.1 HM.out.2.2 (Below.refl _ _)).mono ?_; rintro e wI ⟨rfl, hbI, MI, hMI, RI⟩; have HN := Lib.hid (And.intro (HM.out.1.trans (hbI.mono HW.out)) (And.intro hMI RI)); clear hbI hMI RI; go_wp2; go_roundw; (case rel => (first | exact ⟨7, (by have := HLT.out; omega), (by first | rfl | go_num), HN.out.1, MI, HN.out.2⟩ | ((repeat (apply Exists.intro)); refine And.intro ?_ ?_; rotate_left; (focus rfl); (focus exact ⟨7, (by have := HLT.out; omega), (by first | rfl | go_num), HN.out.1, MI, HN.out.2⟩)))); (case measure => (simp [intOf]; (try (have := HLT.out; omega))))
          ·
            go_simp; have hs1 := hHeld; have hcur := (Below.refl wr.heap.size wr).alloc (Nat.le_refl _) (.cells #[.int .u8 114, .int .u8 103] 5); have hlt5 : wr.heap.size < (wr.alloc (.cells #[.int .u8 114, .int .u8 103] 5)).drew.heap.size := (by show wr.heap.size < (wr.alloc _).heap.size; simp)
            refine hK.out _ _ (fun _ => by (first | exact hsz | exact Nat.le_refl _ | (have h9 := hs1; simp <;> omega))) (fun hh => ?_)
            have hHeld := hh rfl
            clear hK K
            try simp only [Act.put, List.setIfInBounds_toArray, List.set_cons_zero, List.set_cons_succ]
            refine wpZ_two (i := 1) (j := 6) (oi := { dst := some 31, op := Go.Op.call { callee := Go.Callee.value (Go.Operand.func 9), args := #[], argTypes := #[] }, type := 40, pos := "law.go:215", after := #[], guard := none }) (oj := { dst := some 36, op := Go.Op.convert 22 9 (Go.Operand.tmp 35), type := 9, pos := "law.go:215", after := #[{ on := 5, ground := Go.Ground.data }], guard := none }) rfl rfl (by kernel_rfl) (fun K hK => ?_) (fun K hK => ?_)
            ·
              go_simp; have hs1 := hHeld; refine (fx6 _ _ _ wr _ hp HR.out.2.1 HR.out.2.2 (by first | exact ⟨rfl, rfl, rfl, Nat.le_refl _, fun _ _ => rfl⟩ | exact ⟨hcur.1, hcur.2, hcur.3, hcur.4, hcur.5⟩)).mono ?_; rintro e wF ⟨rF, MF, rfl, hbF, hkF, hMF, RF, vF⟩; have hsz : wr.heap.size ≤ wF.heap.size := Nat.le_trans hs1 hbF.size; have HKF := Lib.hid hkF; have hbW : Below W.heap.size W wF := HR.out.1.trans (Below.trans (by first | exact ⟨rfl, rfl, rfl, Nat.le_refl _, fun _ _ => rfl⟩ | exact Below.mono (B := wr.heap.size) ⟨hcur.1, hcur.2, hcur.3, hcur.4, hcur.5⟩ HR.out.1.size) (hbF.mono HW.out)); have HF := Lib.hid (And.intro hbW (And.intro hMF (And.intro RF vF))); clear hbF hbW hMF RF vF hkF hs1 hHeld; go_wp2_with fail
              refine hK.out _ _ (fun _ => by (first | exact hsz | exact Nat.le_refl _ | (have h9 := hs1; simp <;> omega))) (fun hh => ?_)
              have hHeld := hh rfl
              clear hK K
              try simp only [Act.put, List.setIfInBounds_toArray, List.set_cons_zero, List.set_cons_succ]
              refine wpZ_one (i := 6) (oi := { dst := some 36, op := Go.Op.convert 22 9 (Go.Operand.tmp 35), type := 9, pos := "law.go:215", after := #[{ on := 5, ground := Go.Ground.data }], guard := none }) rfl (by kernel_rfl) (fun K hK => ?_)
              have hs1 := hHeld; have hsz := hHeld; (first | (have hcv := convK 103 (by decide) (HKF.out wr.heap.size (Nat.le_refl _) hlt5)) | (have hcv := convN wF 103 103 (by decide)) | (have hcv := convD wr 103 103 (by decide))); go_simp; clear hcv
              refine hK.out _ _ (fun _ => by (first | exact hsz | exact Nat.le_refl _ | (have h9 := hs1; simp <;> omega))) (fun hh => ?_)
              have hHeld := hh rfl
              clear hK K
              try simp only [Act.put, List.setIfInBounds_toArray, List.set_cons_zero, List.set_cons_succ]
              refine wpZ_one (i := 7) (oi := { dst := some 37, op := Go.Op.call { callee := Go.Callee.value (Go.Operand.func 8), args := #[Go.Operand.tmp 30, Go.Operand.tmp 31, Go.Operand.tmp 36], argTypes := #[24, 40, 9] }, type := 27, pos := "law.go:215", after := #[{ on := 0, ground := Go.Ground.data }, { on := 1, ground := Go.Ground.data }, { on := 6, ground := Go.Ground.data }, { on := 1, ground := Go.Ground.chain }], guard := none }) rfl (by kernel_rfl) (fun K hK => ?_)
              go_simp; clear hHeld; refine (mk6 _ _ MF wF _ hp rF HF.out.2.1 HF.out.2.2.1 HF.out.2.2.2 (by first | exact Below.refl _ _ | exact (Below.refl wF.heap.size wF).alloc (Nat.le_refl _) _)).mono ?_; rintro e wM ⟨rfl, hbM, MM, hMM, RM⟩; have hs2 : wF.heap.size ≤ wM.heap.size := Nat.le_trans (by first | exact Nat.le_refl _ | (simp <;> omega)) hbM.size; have hs1 : wr.heap.size ≤ wF.heap.size := (by first | exact hsz | (have h9 := hsz; omega)); have hsz := Nat.le_trans hs1 hs2; have hbX : Below W.heap.size W wM := HF.out.1.trans (Below.trans (by first | exact Below.refl _ _ | exact (Below.refl _ wF).alloc HF.out.1.size _) (hbM.mono HW.out)); have HM := Lib.hid (And.intro hbX (And.intro hMM RM)); clear hbM hMM RM hbX hs2; go_wp2_with fail
              refine hK.out _ _ (fun _ => by (first | exact hsz | exact Nat.le_refl _ | (have h9 := hs1; simp <;> omega))) (fun hh => ?_)
              have hHeld := hh rfl
              clear hK K
              try simp only [Act.put, List.setIfInBounds_toArray, List.set_cons_zero, List.set_cons_succ]
              (refine wpZ_take (i := 8) (oi := { dst := some 29, op := Go.Op.move (Go.Operand.tmp 37), type := 27, pos := "law.go:215", after := #[{ on := 7, ground := Go.Ground.data }], guard := none }) (v := ?_) rfl (by kernel_rfl) (fun _ _ _ h => h) (by assumption) (Or.inl ⟨by rfl, ?_⟩) ?_; rotate_left 1; · ((intro w hSw; (try dsimp only at hSw); go_split_ands; go_simp) <;> (try with_reducible rfl)))
              try simp only [Act.put, List.setIfInBounds_toArray, List.set_cons_zero, List.set_cons_succ]
              (refine wpZ_take (i := 9) (oi := { dst := some 38, op := Go.Op.extract (Go.Operand.tmp 29) 0, type := 3, pos := "law.go:215", after := #[{ on := 8, ground := Go.Ground.data }], guard := none }) (v := ?_) rfl (by kernel_rfl) (fun _ _ _ h => h) (by assumption) (Or.inl ⟨by rfl, ?_⟩) ?_; rotate_left 1; · ((intro w hSw; (try dsimp only at hSw); go_split_ands; go_simp) <;> (try with_reducible rfl)))
              try simp only [Act.put, List.setIfInBounds_toArray, List.set_cons_zero, List.set_cons_succ]
              (refine wpZ_take (i := 10) (oi := { dst := some 39, op := Go.Op.extract (Go.Operand.tmp 29) 1, type := 26, pos := "law.go:215", after := #[{ on := 8, ground := Go.Ground.data }, { on := 11, ground := Go.Ground.gcOnly Go.Departure.lateStores }], guard := none }) (v := ?_) rfl (by kernel_rfl) (fun _ _ _ h => h) (by assumption) (Or.inl ⟨by rfl, ?_⟩) ?_; rotate_left 1; · ((intro w hSw; (try dsimp only at hSw); go_split_ands; go_simp) <;> (try with_reducible rfl)))
              try simp only [Act.put, List.setIfInBounds_toArray, List.set_cons_zero, List.set_cons_succ]
              (refine wpZ_take (i := 11) (oi := { dst := some 8, op := Go.Op.assign (Go.Operand.tmp 38), type := 3, pos := "law.go:215", after := #[{ on := 9, ground := Go.Ground.data }, { on := 7, ground := Go.Ground.chain }, { on := 0, ground := Go.Ground.phase }, { on := 1, ground := Go.Ground.phase }, { on := 2, ground := Go.Ground.phase }, { on := 3, ground := Go.Ground.phase }, { on := 4, ground := Go.Ground.phase }, { on := 5, ground := Go.Ground.phase }, { on := 6, ground := Go.Ground.phase }, { on := 7, ground := Go.Ground.phase }, { on := 8, ground := Go.Ground.phase }, { on := 9, ground := Go.Ground.phase }, { on := 10, ground := Go.Ground.textOnly Go.Departure.lateStores }], guard := none }) (v := ?_) rfl (by kernel_rfl) (fun _ _ _ h => h) (by assumption) (Or.inl ⟨by rfl, ?_⟩) ?_; rotate_left 1; · ((intro w hSw; (try dsimp only at hSw); go_split_ands; go_simp) <;> (try with_reducible rfl)))
              try simp only [Act.put, List.setIfInBounds_toArray, List.set_cons_zero, List.set_cons_succ]
              refine wpZ_one (i := 12) (oi := { dst := some 9, op := Go.Op.assign (Go.Operand.tmp 39), type := 26, pos := "law.go:215", after := #[{ on := 10, ground := Go.Ground.data }, { on := 11, ground := Go.Ground.chain }, { on := 0, ground := Go.Ground.phase }, { on := 1, ground := Go.Ground.phase }, { on := 2, ground := Go.Ground.phase }, { on := 3, ground := Go.Ground.phase }, { on := 4, ground := Go.Ground.phase }, { on := 5, ground := Go.Ground.phase }, { on := 6, ground := Go.Ground.phase }, { on := 7, ground := Go.Ground.phase }, { on := 8, ground := Go.Ground.phase }, { on := 9, ground := Go.Ground.phase }, { on := 10, ground := Go.Ground.phase }, { on := 11, ground := Go.Ground.phase }], guard := none }) rfl (by kernel_rfl) (fun K hK => ?_)
              go_simp
              refine hK.out _ _ (fun h => by simp at h) (fun _ => ?_)
              clear hK K
              try simp only [Act.put, List.setIfInBounds_toArray, List.set_cons_zero, List.set_cons_succ]
              refine wpZ_done (by kernel_rfl) ?_ _
              have t1 : IntKind.i64.wrap 60 = 60 := (by decide); have t2 : IntKind.u64.wrap 60 = 60 := (by decide); have t3 : IntKind.u64.wrap 6 = 6 := (by decide); clear HF HKF; go_wp2_with fail; refine (iv6 _ _ MM wM wM hp _ HM.out.2.1 HM.out.2.2 (Below.refl _ _)).mono ?_; rintro e wI ⟨rfl, hbI, MI, hMI, RI⟩; have HN := Lib.hid (And.intro (HM.out.1.trans (hbI.mono HW.out)) (And.intro hMI RI)); clear hbI hMI RI; go_wp2; go_roundw; (case rel => (first | exact ⟨7, (by have := HLT.out; omega), (by first | rfl | go_num), HN.out.1, MI, HN.out.2⟩ | ((repeat (apply Exists.intro)); refine And.intro ?_ ?_; rotate_left; (focus rfl); (focus exact ⟨7, (by have := HLT.out; omega), (by first | rfl | go_num), HN.out.1, MI, HN.out.2⟩)))); (case measure => (simp [intOf]; (try (have := HLT.out; omega))))
            ·
              have hs1 := hHeld; have hsz := hHeld; (first | (have hcv := convK 103 (by decide) (HKF.out wr.heap.size (Nat.le_refl _) hlt5)) | (have hcv := convN wF 103 103 (by decide)) | (have hcv := convD wr 103 103 (by decide))); go_simp; clear hcv
              refine hK.out _ _ (fun _ => by (first | exact hsz | exact Nat.le_refl _ | (have h9 := hs1; simp <;> omega))) (fun hh => ?_)
              have hHeld := hh rfl
              clear hK K
              try simp only [Act.put, List.setIfInBounds_toArray, List.set_cons_zero, List.set_cons_succ]
              refine wpZ_one (i := 1) (oi := { dst := some 31, op := Go.Op.call { callee := Go.Callee.value (Go.Operand.func 9), args := #[], argTypes := #[] }, type := 40, pos := "law.go:215", after := #[], guard := none }) rfl (by kernel_rfl) (fun K hK => ?_)
              go_simp; have hs1 := hHeld; refine (fx6 _ _ _ wr _ hp HR.out.2.1 HR.out.2.2 (by first | exact ⟨rfl, rfl, rfl, Nat.le_refl _, fun _ _ => rfl⟩ | exact ⟨hcur.1, hcur.2, hcur.3, hcur.4, hcur.5⟩)).mono ?_; rintro e wF ⟨rF, MF, rfl, hbF, hkF, hMF, RF, vF⟩; have hsz : wr.heap.size ≤ wF.heap.size := Nat.le_trans hs1 hbF.size; have HKF := Lib.hid hkF; have hbW : Below W.heap.size W wF := HR.out.1.trans (Below.trans (by first | exact ⟨rfl, rfl, rfl, Nat.le_refl _, fun _ _ => rfl⟩ | exact Below.mono (B := wr.heap.size) ⟨hcur.1, hcur.2, hcur.3, hcur.4, hcur.5⟩ HR.out.1.size) (hbF.mono HW.out)); have HF := Lib.hid (And.intro hbW (And.intro hMF (And.intro RF vF))); clear hbF hbW hMF RF vF hkF hs1 hHeld; go_wp2_with fail
              refine hK.out _ _ (fun _ => by (first | exact hsz | exact Nat.le_refl _ | (have h9 := hs1; simp <;> omega))) (fun hh => ?_)
              have hHeld := hh rfl
              clear hK K
              try simp only [Act.put, List.setIfInBounds_toArray, List.set_cons_zero, List.set_cons_succ]
              refine wpZ_one (i := 7) (oi := { dst := some 37, op := Go.Op.call { callee := Go.Callee.value (Go.Operand.func 8), args := #[Go.Operand.tmp 30, Go.Operand.tmp 31, Go.Operand.tmp 36], argTypes := #[24, 40, 9] }, type := 27, pos := "law.go:215", after := #[{ on := 0, ground := Go.Ground.data }, { on := 1, ground := Go.Ground.data }, { on := 6, ground := Go.Ground.data }, { on := 1, ground := Go.Ground.chain }], guard := none }) rfl (by kernel_rfl) (fun K hK => ?_)
              go_simp; clear hHeld; refine (mk6 _ _ MF wF _ hp rF HF.out.2.1 HF.out.2.2.1 HF.out.2.2.2 (by first | exact Below.refl _ _ | exact (Below.refl wF.heap.size wF).alloc (Nat.le_refl _) _)).mono ?_; rintro e wM ⟨rfl, hbM, MM, hMM, RM⟩; have hs2 : wF.heap.size ≤ wM.heap.size := Nat.le_trans (by first | exact Nat.le_refl _ | (simp <;> omega)) hbM.size; have hs1 : wr.heap.size ≤ wF.heap.size := (by first | exact hsz | (have h9 := hsz; omega)); have hsz := Nat.le_trans hs1 hs2; have hbX : Below W.heap.size W wM := HF.out.1.trans (Below.trans (by first | exact Below.refl _ _ | exact (Below.refl _ wF).alloc HF.out.1.size _) (hbM.mono HW.out)); have HM := Lib.hid (And.intro hbX (And.intro hMM RM)); clear hbM hMM RM hbX hs2; go_wp2_with fail
              refine hK.out _ _ (fun _ => by (first | exact hsz | exact Nat.le_refl _ | (have h9 := hs1; simp <;> omega))) (fun hh => ?_)
              have hHeld := hh rfl
              clear hK K
              try simp only [Act.put, List.setIfInBounds_toArray, List.set_cons_zero, List.set_cons_succ]
              (refine wpZ_take (i := 8) (oi := { dst := some 29, op := Go.Op.move (Go.Operand.tmp 37), type := 27, pos := "law.go:215", after := #[{ on := 7, ground := Go.Ground.data }], guard := none }) (v := ?_) rfl (by kernel_rfl) (fun _ _ _ h => h) (by assumption) (Or.inl ⟨by rfl, ?_⟩) ?_; rotate_left 1; · ((intro w hSw; (try dsimp only at hSw); go_split_ands; go_simp) <;> (try with_reducible rfl)))
              try simp only [Act.put, List.setIfInBounds_toArray, List.set_cons_zero, List.set_cons_succ]
              (refine wpZ_take (i := 9) (oi := { dst := some 38, op := Go.Op.extract (Go.Operand.tmp 29) 0, type := 3, pos := "law.go:215", after := #[{ on := 8, ground := Go.Ground.data }], guard := none }) (v := ?_) rfl (by kernel_rfl) (fun _ _ _ h => h) (by assumption) (Or.inl ⟨by rfl, ?_⟩) ?_; rotate_left 1; · ((intro w hSw; (try dsimp only at hSw); go_split_ands; go_simp) <;> (try with_reducible rfl)))
              try simp only [Act.put, List.setIfInBounds_toArray, List.set_cons_zero, List.set_cons_succ]
              (refine wpZ_take (i := 10) (oi := { dst := some 39, op := Go.Op.extract (Go.Operand.tmp 29) 1, type := 26, pos := "law.go:215", after := #[{ on := 8, ground := Go.Ground.data }, { on := 11, ground := Go.Ground.gcOnly Go.Departure.lateStores }], guard := none }) (v := ?_) rfl (by kernel_rfl) (fun _ _ _ h => h) (by assumption) (Or.inl ⟨by rfl, ?_⟩) ?_; rotate_left 1; · ((intro w hSw; (try dsimp only at hSw); go_split_ands; go_simp) <;> (try with_reducible rfl)))
              try simp only [Act.put, List.setIfInBounds_toArray, List.set_cons_zero, List.set_cons_succ]
              (refine wpZ_take (i := 11) (oi := { dst := some 8, op := Go.Op.assign (Go.Operand.tmp 38), type := 3, pos := "law.go:215", after := #[{ on := 9, ground := Go.Ground.data }, { on := 7, ground := Go.Ground.chain }, { on := 0, ground := Go.Ground.phase }, { on := 1, ground := Go.Ground.phase }, { on := 2, ground := Go.Ground.phase }, { on := 3, ground := Go.Ground.phase }, { on := 4, ground := Go.Ground.phase }, { on := 5, ground := Go.Ground.phase }, { on := 6, ground := Go.Ground.phase }, { on := 7, ground := Go.Ground.phase }, { on := 8, ground := Go.Ground.phase }, { on := 9, ground := Go.Ground.phase }, { on := 10, ground := Go.Ground.textOnly Go.Departure.lateStores }], guard := none }) (v := ?_) rfl (by kernel_rfl) (fun _ _ _ h => h) (by assumption) (Or.inl ⟨by rfl, ?_⟩) ?_; rotate_left 1; · ((intro w hSw; (try dsimp only at hSw); go_split_ands; go_simp) <;> (try with_reducible rfl)))
              try simp only [Act.put, List.setIfInBounds_toArray, List.set_cons_zero, List.set_cons_succ]
              refine wpZ_one (i := 12) (oi := { dst := some 9, op := Go.Op.assign (Go.Operand.tmp 39), type := 26, pos := "law.go:215", after := #[{ on := 10, ground := Go.Ground.data }, { on := 11, ground := Go.Ground.chain }, { on := 0, ground := Go.Ground.phase }, { on := 1, ground := Go.Ground.phase }, { on := 2, ground := Go.Ground.phase }, { on := 3, ground := Go.Ground.phase }, { on := 4, ground := Go.Ground.phase }, { on := 5, ground := Go.Ground.phase }, { on := 6, ground := Go.Ground.phase }, { on := 7, ground := Go.Ground.phase }, { on := 8, ground := Go.Ground.phase }, { on := 9, ground := Go.Ground.phase }, { on := 10, ground := Go.Ground.phase }, { on := 11, ground := Go.Ground.phase }], guard := none }) rfl (by kernel_rfl) (fun K hK => ?_)
              go_simp
              refine hK.out _ _ (fun h => by simp at h) (fun _ => ?_)
              clear hK K
              try simp only [Act.put, List.setIfInBounds_toArray, List.set_cons_zero, List.set_cons_succ]
              refine wpZ_done (by kernel_rfl) ?_ _
              have t1 : IntKind.i64.wrap 60 = 60 := (by decide); have t2 : IntKind.u64.wrap 60 = 60 := (by decide); have t3 : IntKind.u64.wrap 6 = 6 := (by decide); clear HF HKF; go_wp2_with fail; refine (iv6 _ _ MM wM wM hp _ HM.out.2.1 HM.out.2.2 (Below.refl _ _)).mono ?_; rintro e wI ⟨rfl, hbI, MI, hMI, RI⟩; have HN := Lib.hid (And.intro (HM.out.1.trans (hbI.mono HW.out)) (And.intro hMI RI)); clear hbI hMI RI; go_wp2; go_roundw; (case rel => (first | exact ⟨7, (by have := HLT.out; omega), (by first | rfl | go_num), HN.out.1, MI, HN.out.2⟩ | ((repeat (apply Exists.intro)); refine And.intro ?_ ?_; rotate_left; (focus rfl); (focus exact ⟨7, (by have := HLT.out; omega), (by first | rfl | go_num), HN.out.1, MI, HN.out.2⟩)))); (case measure => (simp [intOf]; (try (have := HLT.out; omega))))
        · have HLT := Lib.hid hlt
          have d0 : decide ((7 : Int) < (kk : Int)) = true := decide_eq_true (by omega)
          have d0n : decide (7 < kk) = true := decide_eq_true (by omega)
          have hch : IntKind.u8.wrap (IntKind.i64.wrap 104) = 104 := by decide
          clear hlt hj
          go_upto_region 10 with (fail)
          refine wp_region_z (fun w' => wr.heap.size ≤ w'.heap.size) (fun j => j == 12) (by kernel_rfl) ?_ (fun hHeld => ?_)
          · first | exact hsz | exact Nat.le_refl _ | (have h9 := hs1; simp <;> omega)
          (refine wpZ_take (i := 0) (oi := { dst := some 30, op := Go.Op.move (Go.Operand.tmp 5), type := 24, pos := "law.go:215", after := #[], guard := none }) (v := ?_) rfl (by kernel_rfl) (fun _ _ _ h => h) (by assumption) (Or.inl ⟨by rfl, ?_⟩) ?_; rotate_left 1; · ((intro w hSw; (try dsimp only at hSw); go_split_ands; go_simp) <;> (try with_reducible rfl)))
          try simp only [Act.put, List.setIfInBounds_toArray, List.set_cons_zero, List.set_cons_succ]
          (refine wpZ_take (i := 2) (oi := { dst := some 32, op := Go.Op.move (Go.Operand.tmp 7), type := 3, pos := "law.go:215", after := #[], guard := none }) (v := ?_) rfl (by kernel_rfl) (fun _ _ _ h => h) (by assumption) (Or.inl ⟨by rfl, ?_⟩) ?_; rotate_left 1; · ((intro w hSw; (try dsimp only at hSw); go_split_ands; go_simp) <;> (try with_reducible rfl)))
          try simp only [Act.put, List.setIfInBounds_toArray, List.set_cons_zero, List.set_cons_succ]
          (refine wpZ_take (i := 3) (oi := { dst := some 33, op := Go.Op.binOp Go.BinOp.add 3 (Go.Operand.const (Go.Value.int Go.IntKind.i64 97)) (Go.Operand.tmp 32) 3, type := 3, pos := "law.go:215", after := #[{ on := 2, ground := Go.Ground.data }], guard := none }) (v := ?_) rfl (by kernel_rfl) (fun _ _ _ h => h) (by assumption) (Or.inl ⟨by rfl, ?_⟩) ?_; rotate_left 1; · ((intro w hSw; (try dsimp only at hSw); go_split_ands; go_simp) <;> (try with_reducible rfl)))
          try simp only [Act.put, List.setIfInBounds_toArray, List.set_cons_zero, List.set_cons_succ]
          (refine wpZ_take (i := 4) (oi := { dst := some 34, op := Go.Op.convert 3 5 (Go.Operand.tmp 33), type := 5, pos := "law.go:215", after := #[{ on := 3, ground := Go.Ground.data }], guard := none }) (v := ?_) rfl (by kernel_rfl) (fun _ _ _ h => h) (by assumption) (Or.inl ⟨by rfl, ?_⟩) ?_; rotate_left 1; · ((intro w hSw; (try dsimp only at hSw); go_split_ands; go_simp) <;> (try with_reducible rfl)))
          try simp only [Act.put, List.setIfInBounds_toArray, List.set_cons_zero, List.set_cons_succ]
          refine wpZ_two (i := 1) (j := 5) (oi := { dst := some 31, op := Go.Op.call { callee := Go.Callee.value (Go.Operand.func 9), args := #[], argTypes := #[] }, type := 40, pos := "law.go:215", after := #[], guard := none }) (oj := { dst := some 35, op := Go.Op.buildSlice 22 2 #[(0, Go.Operand.const (Go.Value.int Go.IntKind.u8 114)), (1, Go.Operand.tmp 34)], type := 22, pos := "law.go:215", after := #[{ on := 4, ground := Go.Ground.data }], guard := none }) rfl rfl (by kernel_rfl) (fun K hK => ?_) (fun K hK => ?_)
          ·
            go_simp; have hs1 := hHeld; refine (fx7 _ _ _ wr _ hp HR.out.2.1 HR.out.2.2 (by first | exact ⟨rfl, rfl, rfl, Nat.le_refl _, fun _ _ => rfl⟩ | exact ⟨hcur.1, hcur.2, hcur.3, hcur.4, hcur.5⟩)).mono ?_; rintro e wF ⟨rF, MF, rfl, hbF, hkF, hMF, RF, vF⟩; have hsz : wr.heap.size ≤ wF.heap.size := Nat.le_trans hs1 hbF.size; have HKF := Lib.hid hkF; have hbW : Below W.heap.size W wF := HR.out.1.trans (Below.trans (by first | exact ⟨rfl, rfl, rfl, Nat.le_refl _, fun _ _ => rfl⟩ | exact Below.mono (B := wr.heap.size) ⟨hcur.1, hcur.2, hcur.3, hcur.4, hcur.5⟩ HR.out.1.size) (hbF.mono HW.out)); have HF := Lib.hid (And.intro hbW (And.intro hMF (And.intro RF vF))); clear hbF hbW hMF RF vF hkF hs1 hHeld; go_wp2_with fail
            refine hK.out _ _ (fun _ => by (first | exact hsz | exact Nat.le_refl _ | (have h9 := hs1; simp <;> omega))) (fun hh => ?_)
            have hHeld := hh rfl
            clear hK K
            try simp only [Act.put, List.setIfInBounds_toArray, List.set_cons_zero, List.set_cons_succ]
            refine wpZ_one (i := 5) (oi := { dst := some 35, op := Go.Op.buildSlice 22 2 #[(0, Go.Operand.const (Go.Value.int Go.IntKind.u8 114)), (1, Go.Operand.tmp 34)], type := 22, pos := "law.go:215", after := #[{ on := 4, ground := Go.Ground.data }], guard := none }) rfl (by kernel_rfl) (fun K hK => ?_)
            go_simp; have hs1 := hHeld; have hcur := (Below.refl wr.heap.size wr).alloc (Nat.le_refl _) (.cells #[.int .u8 114, .int .u8 104] 5); have hlt5 : wr.heap.size < (wr.alloc (.cells #[.int .u8 114, .int .u8 104] 5)).drew.heap.size := (by show wr.heap.size < (wr.alloc _).heap.size; simp)
            refine hK.out _ _ (fun _ => by (first | exact hsz | exact Nat.le_refl _ | (have h9 := hs1; simp <;> omega))) (fun hh => ?_)
            have hHeld := hh rfl
            clear hK K
            try simp only [Act.put, List.setIfInBounds_toArray, List.set_cons_zero, List.set_cons_succ]
            refine wpZ_one (i := 6) (oi := { dst := some 36, op := Go.Op.convert 22 9 (Go.Operand.tmp 35), type := 9, pos := "law.go:215", after := #[{ on := 5, ground := Go.Ground.data }], guard := none }) rfl (by kernel_rfl) (fun K hK => ?_)
            have hs1 := hHeld; have hsz := hHeld; (first | (have hcv := convK 104 (by decide) (HKF.out wr.heap.size (Nat.le_refl _) hlt5)) | (have hcv := convN wF 104 104 (by decide)) | (have hcv := convD wr 104 104 (by decide))); go_simp; clear hcv
            refine hK.out _ _ (fun _ => by (first | exact hsz | exact Nat.le_refl _ | (have h9 := hs1; simp <;> omega))) (fun hh => ?_)
            have hHeld := hh rfl
            clear hK K
            try simp only [Act.put, List.setIfInBounds_toArray, List.set_cons_zero, List.set_cons_succ]
            refine wpZ_one (i := 7) (oi := { dst := some 37, op := Go.Op.call { callee := Go.Callee.value (Go.Operand.func 8), args := #[Go.Operand.tmp 30, Go.Operand.tmp 31, Go.Operand.tmp 36], argTypes := #[24, 40, 9] }, type := 27, pos := "law.go:215", after := #[{ on := 0, ground := Go.Ground.data }, { on := 1, ground := Go.Ground.data }, { on := 6, ground := Go.Ground.data }, { on := 1, ground := Go.Ground.chain }], guard := none }) rfl (by kernel_rfl) (fun K hK => ?_)
            go_simp; clear hHeld; refine (mk7 _ _ MF wF _ hp rF HF.out.2.1 HF.out.2.2.1 HF.out.2.2.2 (by first | exact Below.refl _ _ | exact (Below.refl wF.heap.size wF).alloc (Nat.le_refl _) _)).mono ?_; rintro e wM ⟨rfl, hbM, MM, hMM, RM⟩; have hs2 : wF.heap.size ≤ wM.heap.size := Nat.le_trans (by first | exact Nat.le_refl _ | (simp <;> omega)) hbM.size; have hs1 : wr.heap.size ≤ wF.heap.size := (by first | exact hsz | (have h9 := hsz; omega)); have hsz := Nat.le_trans hs1 hs2; have hbX : Below W.heap.size W wM := HF.out.1.trans (Below.trans (by first | exact Below.refl _ _ | exact (Below.refl _ wF).alloc HF.out.1.size _) (hbM.mono HW.out)); have HM := Lib.hid (And.intro hbX (And.intro hMM RM)); clear hbM hMM RM hbX hs2; go_wp2_with fail
            refine hK.out _ _ (fun _ => by (first | exact hsz | exact Nat.le_refl _ | (have h9 := hs1; simp <;> omega))) (fun hh => ?_)
            have hHeld := hh rfl
            clear hK K
            try simp only [Act.put, List.setIfInBounds_toArray, List.set_cons_zero, List.set_cons_succ]
            (refine wpZ_take (i := 8) (oi := { dst := some 29, op := Go.Op.move (Go.Operand.tmp 37), type := 27, pos := "law.go:215", after := #[{ on := 7, ground := Go.Ground.data }], guard := none }) (v := ?_) rfl (by kernel_rfl) (fun _ _ _ h => h) (by assumption) (Or.inl ⟨by rfl, ?_⟩) ?_; rotate_left 1; · ((intro w hSw; (try dsimp only at hSw); go_split_ands; go_simp) <;> (try with_reducible rfl)))
            try simp only [Act.put, List.setIfInBounds_toArray, List.set_cons_zero, List.set_cons_succ]
            (refine wpZ_take (i := 9) (oi := { dst := some 38, op := Go.Op.extract (Go.Operand.tmp 29) 0, type := 3, pos := "law.go:215", after := #[{ on := 8, ground := Go.Ground.data }], guard := none }) (v := ?_) rfl (by kernel_rfl) (fun _ _ _ h => h) (by assumption) (Or.inl ⟨by rfl, ?_⟩) ?_; rotate_left 1; · ((intro w hSw; (try dsimp only at hSw); go_split_ands; go_simp) <;> (try with_reducible rfl)))
            try simp only [Act.put, List.setIfInBounds_toArray, List.set_cons_zero, List.set_cons_succ]
            (refine wpZ_take (i := 10) (oi := { dst := some 39, op := Go.Op.extract (Go.Operand.tmp 29) 1, type := 26, pos := "law.go:215", after := #[{ on := 8, ground := Go.Ground.data }, { on := 11, ground := Go.Ground.gcOnly Go.Departure.lateStores }], guard := none }) (v := ?_) rfl (by kernel_rfl) (fun _ _ _ h => h) (by assumption) (Or.inl ⟨by rfl, ?_⟩) ?_; rotate_left 1; · ((intro w hSw; (try dsimp only at hSw); go_split_ands; go_simp) <;> (try with_reducible rfl)))
            try simp only [Act.put, List.setIfInBounds_toArray, List.set_cons_zero, List.set_cons_succ]
            (refine wpZ_take (i := 11) (oi := { dst := some 8, op := Go.Op.assign (Go.Operand.tmp 38), type := 3, pos := "law.go:215", after := #[{ on := 9, ground := Go.Ground.data }, { on := 7, ground := Go.Ground.chain }, { on := 0, ground := Go.Ground.phase }, { on := 1, ground := Go.Ground.phase }, { on := 2, ground := Go.Ground.phase }, { on := 3, ground := Go.Ground.phase }, { on := 4, ground := Go.Ground.phase }, { on := 5, ground := Go.Ground.phase }, { on := 6, ground := Go.Ground.phase }, { on := 7, ground := Go.Ground.phase }, { on := 8, ground := Go.Ground.phase }, { on := 9, ground := Go.Ground.phase }, { on := 10, ground := Go.Ground.textOnly Go.Departure.lateStores }], guard := none }) (v := ?_) rfl (by kernel_rfl) (fun _ _ _ h => h) (by assumption) (Or.inl ⟨by rfl, ?_⟩) ?_; rotate_left 1; · ((intro w hSw; (try dsimp only at hSw); go_split_ands; go_simp) <;> (try with_reducible rfl)))
            try simp only [Act.put, List.setIfInBounds_toArray, List.set_cons_zero, List.set_cons_succ]
            refine wpZ_one (i := 12) (oi := { dst := some 9, op := Go.Op.assign (Go.Operand.tmp 39), type := 26, pos := "law.go:215", after := #[{ on := 10, ground := Go.Ground.data }, { on := 11, ground := Go.Ground.chain }, { on := 0, ground := Go.Ground.phase }, { on := 1, ground := Go.Ground.phase }, { on := 2, ground := Go.Ground.phase }, { on := 3, ground := Go.Ground.phase }, { on := 4, ground := Go.Ground.phase }, { on := 5, ground := Go.Ground.phase }, { on := 6, ground := Go.Ground.phase }, { on := 7, ground := Go.Ground.phase }, { on := 8, ground := Go.Ground.phase }, { on := 9, ground := Go.Ground.phase }, { on := 10, ground := Go.Ground.phase }, { on := 11, ground := Go.Ground.phase }], guard := none }) rfl (by kernel_rfl) (fun K hK => ?_)
            go_simp
            refine hK.out _ _ (fun h => by simp at h) (fun _ => ?_)
            clear hK K
            try simp only [Act.put, List.setIfInBounds_toArray, List.set_cons_zero, List.set_cons_succ]
            refine wpZ_done (by kernel_rfl) ?_ _
            have t1 : IntKind.i64.wrap 70 = 70 := (by decide); have t2 : IntKind.u64.wrap 70 = 70 := (by decide); have t3 : IntKind.u64.wrap 7 = 7 := (by decide); clear HF HKF; go_wp2_with fail; refine (iv7 _ _ MM wM wM hp _ HM.out.2.1 HM.out.2.2 (Below.refl _ _)).mono ?_; rintro e wI ⟨rfl, hbI, MI, hMI, RI⟩; have HN := Lib.hid (And.intro (HM.out.1.trans (hbI.mono HW.out)) (And.intro hMI RI)); clear hbI hMI RI; go_wp2; go_roundw; (case rel => (first | exact ⟨8, (by have := HLT.out; omega), (by first | rfl | go_num), HN.out.1, MI, HN.out.2⟩ | ((repeat (apply Exists.intro)); refine And.intro ?_ ?_; rotate_left; (focus rfl); (focus exact ⟨8, (by have := HLT.out; omega), (by first | rfl | go_num), HN.out.1, MI, HN.out.2⟩)))); (case measure => (simp [intOf]; (try (have := HLT.out; omega))))
          ·
            go_simp; have hs1 := hHeld; have hcur := (Below.refl wr.heap.size wr).alloc (Nat.le_refl _) (.cells #[.int .u8 114, .int .u8 104] 5); have hlt5 : wr.heap.size < (wr.alloc (.cells #[.int .u8 114, .int .u8 104] 5)).drew.heap.size := (by show wr.heap.size < (wr.alloc _).heap.size; simp)
            refine hK.out _ _ (fun _ => by (first | exact hsz | exact Nat.le_refl _ | (have h9 := hs1; simp <;> omega))) (fun hh => ?_)
            have hHeld := hh rfl
            clear hK K
            try simp only [Act.put, List.setIfInBounds_toArray, List.set_cons_zero, List.set_cons_succ]
            refine wpZ_two (i := 1) (j := 6) (oi := { dst := some 31, op := Go.Op.call { callee := Go.Callee.value (Go.Operand.func 9), args := #[], argTypes := #[] }, type := 40, pos := "law.go:215", after := #[], guard := none }) (oj := { dst := some 36, op := Go.Op.convert 22 9 (Go.Operand.tmp 35), type := 9, pos := "law.go:215", after := #[{ on := 5, ground := Go.Ground.data }], guard := none }) rfl rfl (by kernel_rfl) (fun K hK => ?_) (fun K hK => ?_)
            ·
              go_simp; have hs1 := hHeld; refine (fx7 _ _ _ wr _ hp HR.out.2.1 HR.out.2.2 (by first | exact ⟨rfl, rfl, rfl, Nat.le_refl _, fun _ _ => rfl⟩ | exact ⟨hcur.1, hcur.2, hcur.3, hcur.4, hcur.5⟩)).mono ?_; rintro e wF ⟨rF, MF, rfl, hbF, hkF, hMF, RF, vF⟩; have hsz : wr.heap.size ≤ wF.heap.size := Nat.le_trans hs1 hbF.size; have HKF := Lib.hid hkF; have hbW : Below W.heap.size W wF := HR.out.1.trans (Below.trans (by first | exact ⟨rfl, rfl, rfl, Nat.le_refl _, fun _ _ => rfl⟩ | exact Below.mono (B := wr.heap.size) ⟨hcur.1, hcur.2, hcur.3, hcur.4, hcur.5⟩ HR.out.1.size) (hbF.mono HW.out)); have HF := Lib.hid (And.intro hbW (And.intro hMF (And.intro RF vF))); clear hbF hbW hMF RF vF hkF hs1 hHeld; go_wp2_with fail
              refine hK.out _ _ (fun _ => by (first | exact hsz | exact Nat.le_refl _ | (have h9 := hs1; simp <;> omega))) (fun hh => ?_)
              have hHeld := hh rfl
              clear hK K
              try simp only [Act.put, List.setIfInBounds_toArray, List.set_cons_zero, List.set_cons_succ]
              refine wpZ_one (i := 6) (oi := { dst := some 36, op := Go.Op.convert 22 9 (Go.Operand.tmp 35), type := 9, pos := "law.go:215", after := #[{ on := 5, ground := Go.Ground.data }], guard := none }) rfl (by kernel_rfl) (fun K hK => ?_)
              have hs1 := hHeld; have hsz := hHeld; (first | (have hcv := convK 104 (by decide) (HKF.out wr.heap.size (Nat.le_refl _) hlt5)) | (have hcv := convN wF 104 104 (by decide)) | (have hcv := convD wr 104 104 (by decide))); go_simp; clear hcv
              refine hK.out _ _ (fun _ => by (first | exact hsz | exact Nat.le_refl _ | (have h9 := hs1; simp <;> omega))) (fun hh => ?_)
              have hHeld := hh rfl
              clear hK K
              try simp only [Act.put, List.setIfInBounds_toArray, List.set_cons_zero, List.set_cons_succ]
              refine wpZ_one (i := 7) (oi := { dst := some 37, op := Go.Op.call { callee := Go.Callee.value (Go.Operand.func 8), args := #[Go.Operand.tmp 30, Go.Operand.tmp 31, Go.Operand.tmp 36], argTypes := #[24, 40, 9] }, type := 27, pos := "law.go:215", after := #[{ on := 0, ground := Go.Ground.data }, { on := 1, ground := Go.Ground.data }, { on := 6, ground := Go.Ground.data }, { on := 1, ground := Go.Ground.chain }], guard := none }) rfl (by kernel_rfl) (fun K hK => ?_)
              go_simp; clear hHeld; refine (mk7 _ _ MF wF _ hp rF HF.out.2.1 HF.out.2.2.1 HF.out.2.2.2 (by first | exact Below.refl _ _ | exact (Below.refl wF.heap.size wF).alloc (Nat.le_refl _) _)).mono ?_; rintro e wM ⟨rfl, hbM, MM, hMM, RM⟩; have hs2 : wF.heap.size ≤ wM.heap.size := Nat.le_trans (by first | exact Nat.le_refl _ | (simp <;> omega)) hbM.size; have hs1 : wr.heap.size ≤ wF.heap.size := (by first | exact hsz | (have h9 := hsz; omega)); have hsz := Nat.le_trans hs1 hs2; have hbX : Below W.heap.size W wM := HF.out.1.trans (Below.trans (by first | exact Below.refl _ _ | exact (Below.refl _ wF).alloc HF.out.1.size _) (hbM.mono HW.out)); have HM := Lib.hid (And.intro hbX (And.intro hMM RM)); clear hbM hMM RM hbX hs2; go_wp2_with fail
              refine hK.out _ _ (fun _ => by (first | exact hsz | exact Nat.le_refl _ | (have h9 := hs1; simp <;> omega))) (fun hh => ?_)
              have hHeld := hh rfl
              clear hK K
              try simp only [Act.put, List.setIfInBounds_toArray, List.set_cons_zero, List.set_cons_succ]
              (refine wpZ_take (i := 8) (oi := { dst := some 29, op := Go.Op.move (Go.Operand.tmp 37), type := 27, pos := "law.go:215", after := #[{ on := 7, ground := Go.Ground.data }], guard := none }) (v := ?_) rfl (by kernel_rfl) (fun _ _ _ h => h) (by assumption) (Or.inl ⟨by rfl, ?_⟩) ?_; rotate_left 1; · ((intro w hSw; (try dsimp only at hSw); go_split_ands; go_simp) <;> (try with_reducible rfl)))
              try simp only [Act.put, List.setIfInBounds_toArray, List.set_cons_zero, List.set_cons_succ]
              (refine wpZ_take (i := 9) (oi := { dst := some 38, op := Go.Op.extract (Go.Operand.tmp 29) 0, type := 3, pos := "law.go:215", after := #[{ on := 8, ground := Go.Ground.data }], guard := none }) (v := ?_) rfl (by kernel_rfl) (fun _ _ _ h => h) (by assumption) (Or.inl ⟨by rfl, ?_⟩) ?_; rotate_left 1; · ((intro w hSw; (try dsimp only at hSw); go_split_ands; go_simp) <;> (try with_reducible rfl)))
              try simp only [Act.put, List.setIfInBounds_toArray, List.set_cons_zero, List.set_cons_succ]
              (refine wpZ_take (i := 10) (oi := { dst := some 39, op := Go.Op.extract (Go.Operand.tmp 29) 1, type := 26, pos := "law.go:215", after := #[{ on := 8, ground := Go.Ground.data }, { on := 11, ground := Go.Ground.gcOnly Go.Departure.lateStores }], guard := none }) (v := ?_) rfl (by kernel_rfl) (fun _ _ _ h => h) (by assumption) (Or.inl ⟨by rfl, ?_⟩) ?_; rotate_left 1; · ((intro w hSw; (try dsimp only at hSw); go_split_ands; go_simp) <;> (try with_reducible rfl)))
              try simp only [Act.put, List.setIfInBounds_toArray, List.set_cons_zero, List.set_cons_succ]
              (refine wpZ_take (i := 11) (oi := { dst := some 8, op := Go.Op.assign (Go.Operand.tmp 38), type := 3, pos := "law.go:215", after := #[{ on := 9, ground := Go.Ground.data }, { on := 7, ground := Go.Ground.chain }, { on := 0, ground := Go.Ground.phase }, { on := 1, ground := Go.Ground.phase }, { on := 2, ground := Go.Ground.phase }, { on := 3, ground := Go.Ground.phase }, { on := 4, ground := Go.Ground.phase }, { on := 5, ground := Go.Ground.phase }, { on := 6, ground := Go.Ground.phase }, { on := 7, ground := Go.Ground.phase }, { on := 8, ground := Go.Ground.phase }, { on := 9, ground := Go.Ground.phase }, { on := 10, ground := Go.Ground.textOnly Go.Departure.lateStores }], guard := none }) (v := ?_) rfl (by kernel_rfl) (fun _ _ _ h => h) (by assumption) (Or.inl ⟨by rfl, ?_⟩) ?_; rotate_left 1; · ((intro w hSw; (try dsimp only at hSw); go_split_ands; go_simp) <;> (try with_reducible rfl)))
              try simp only [Act.put, List.setIfInBounds_toArray, List.set_cons_zero, List.set_cons_succ]
              refine wpZ_one (i := 12) (oi := { dst := some 9, op := Go.Op.assign (Go.Operand.tmp 39), type := 26, pos := "law.go:215", after := #[{ on := 10, ground := Go.Ground.data }, { on := 11, ground := Go.Ground.chain }, { on := 0, ground := Go.Ground.phase }, { on := 1, ground := Go.Ground.phase }, { on := 2, ground := Go.Ground.phase }, { on := 3, ground := Go.Ground.phase }, { on := 4, ground := Go.Ground.phase }, { on := 5, ground := Go.Ground.phase }, { on := 6, ground := Go.Ground.phase }, { on := 7, ground := Go.Ground.phase }, { on := 8, ground := Go.Ground.phase }, { on := 9, ground := Go.Ground.phase }, { on := 10, ground := Go.Ground.phase }, { on := 11, ground := Go.Ground.phase }], guard := none }) rfl (by kernel_rfl) (fun K hK => ?_)
              go_simp
              refine hK.out _ _ (fun h => by simp at h) (fun _ => ?_)
              clear hK K
              try simp only [Act.put, List.setIfInBounds_toArray, List.set_cons_zero, List.set_cons_succ]
              refine wpZ_done (by kernel_rfl) ?_ _
              have t1 : IntKind.i64.wrap 70 = 70 := (by decide); have t2 : IntKind.u64.wrap 70 = 70 := (by decide); have t3 : IntKind.u64.wrap 7 = 7 := (by decide); clear HF HKF; go_wp2_with fail; refine (iv7 _ _ MM wM wM hp _ HM.out.2.1 HM.out.2.2 (Below.refl _ _)).mono ?_; rintro e wI ⟨rfl, hbI, MI, hMI, RI⟩; have HN := Lib.hid (And.intro (HM.out.1.trans (hbI.mono HW.out)) (And.intro hMI RI)); clear hbI hMI RI; go_wp2; go_roundw; (case rel => (first | exact ⟨8, (by have := HLT.out; omega), (by first | rfl | go_num), HN.out.1, MI, HN.out.2⟩ | ((repeat (apply Exists.intro)); refine And.intro ?_ ?_; rotate_left; (focus rfl); (focus exact ⟨8, (by have := HLT.out; omega), (by first | rfl | go_num), HN.out.1, MI, HN.out.2⟩)))); (case measure => (simp [intOf]; (try (have := HLT.out; omega))))
            ·
              have hs1 := hHeld; have hsz := hHeld; (first | (have hcv := convK 104 (by decide) (HKF.out wr.heap.size (Nat.le_refl _) hlt5)) | (have hcv := convN wF 104 104 (by decide)) | (have hcv := convD wr 104 104 (by decide))); go_simp; clear hcv
              refine hK.out _ _ (fun _ => by (first | exact hsz | exact Nat.le_refl _ | (have h9 := hs1; simp <;> omega))) (fun hh => ?_)
              have hHeld := hh rfl
              clear hK K
              try simp only [Act.put, List.setIfInBounds_toArray, List.set_cons_zero, List.set_cons_succ]
              refine wpZ_one (i := 1) (oi := { dst := some 31, op := Go.Op.call { callee := Go.Callee.value (Go.Operand.func 9), args := #[], argTypes := #[] }, type := 40, pos := "law.go:215", after := #[], guard := none }) rfl (by kernel_rfl) (fun K hK => ?_)
              go_simp; have hs1 := hHeld; refine (fx7 _ _ _ wr _ hp HR.out.2.1 HR.out.2.2 (by first | exact ⟨rfl, rfl, rfl, Nat.le_refl _, fun _ _ => rfl⟩ | exact ⟨hcur.1, hcur.2, hcur.3, hcur.4, hcur.5⟩)).mono ?_; rintro e wF ⟨rF, MF, rfl, hbF, hkF, hMF, RF, vF⟩; have hsz : wr.heap.size ≤ wF.heap.size := Nat.le_trans hs1 hbF.size; have HKF := Lib.hid hkF; have hbW : Below W.heap.size W wF := HR.out.1.trans (Below.trans (by first | exact ⟨rfl, rfl, rfl, Nat.le_refl _, fun _ _ => rfl⟩ | exact Below.mono (B := wr.heap.size) ⟨hcur.1, hcur.2, hcur.3, hcur.4, hcur.5⟩ HR.out.1.size) (hbF.mono HW.out)); have HF := Lib.hid (And.intro hbW (And.intro hMF (And.intro RF vF))); clear hbF hbW hMF RF vF hkF hs1 hHeld; go_wp2_with fail
              refine hK.out _ _ (fun _ => by (first | exact hsz | exact Nat.le_refl _ | (have h9 := hs1; simp <;> omega))) (fun hh => ?_)
              have hHeld := hh rfl
              clear hK K
              try simp only [Act.put, List.setIfInBounds_toArray, List.set_cons_zero, List.set_cons_succ]
              refine wpZ_one (i := 7) (oi := { dst := some 37, op := Go.Op.call { callee := Go.Callee.value (Go.Operand.func 8), args := #[Go.Operand.tmp 30, Go.Operand.tmp 31, Go.Operand.tmp 36], argTypes := #[24, 40, 9] }, type := 27, pos := "law.go:215", after := #[{ on := 0, ground := Go.Ground.data }, { on := 1, ground := Go.Ground.data }, { on := 6, ground := Go.Ground.data }, { on := 1, ground := Go.Ground.chain }], guard := none }) rfl (by kernel_rfl) (fun K hK => ?_)
              go_simp; clear hHeld; refine (mk7 _ _ MF wF _ hp rF HF.out.2.1 HF.out.2.2.1 HF.out.2.2.2 (by first | exact Below.refl _ _ | exact (Below.refl wF.heap.size wF).alloc (Nat.le_refl _) _)).mono ?_; rintro e wM ⟨rfl, hbM, MM, hMM, RM⟩; have hs2 : wF.heap.size ≤ wM.heap.size := Nat.le_trans (by first | exact Nat.le_refl _ | (simp <;> omega)) hbM.size; have hs1 : wr.heap.size ≤ wF.heap.size := (by first | exact hsz | (have h9 := hsz; omega)); have hsz := Nat.le_trans hs1 hs2; have hbX : Below W.heap.size W wM := HF.out.1.trans (Below.trans (by first | exact Below.refl _ _ | exact (Below.refl _ wF).alloc HF.out.1.size _) (hbM.mono HW.out)); have HM := Lib.hid (And.intro hbX (And.intro hMM RM)); clear hbM hMM RM hbX hs2; go_wp2_with fail
              refine hK.out _ _ (fun _ => by (first | exact hsz | exact Nat.le_refl _ | (have h9 := hs1; simp <;> omega))) (fun hh => ?_)
              have hHeld := hh rfl
              clear hK K
              try simp only [Act.put, List.setIfInBounds_toArray, List.set_cons_zero, List.set_cons_succ]
              (refine wpZ_take (i := 8) (oi := { dst := some 29, op := Go.Op.move (Go.Operand.tmp 37), type := 27, pos := "law.go:215", after := #[{ on := 7, ground := Go.Ground.data }], guard := none }) (v := ?_) rfl (by kernel_rfl) (fun _ _ _ h => h) (by assumption) (Or.inl ⟨by rfl, ?_⟩) ?_; rotate_left 1; · ((intro w hSw; (try dsimp only at hSw); go_split_ands; go_simp) <;> (try with_reducible rfl)))
              try simp only [Act.put, List.setIfInBounds_toArray, List.set_cons_zero, List.set_cons_succ]
              (refine wpZ_take (i := 9) (oi := { dst := some 38, op := Go.Op.extract (Go.Operand.tmp 29) 0, type := 3, pos := "law.go:215", after := #[{ on := 8, ground := Go.Ground.data }], guard := none }) (v := ?_) rfl (by kernel_rfl) (fun _ _ _ h => h) (by assumption) (Or.inl ⟨by rfl, ?_⟩) ?_; rotate_left 1; · ((intro w hSw; (try dsimp only at hSw); go_split_ands; go_simp) <;> (try with_reducible rfl)))
              try simp only [Act.put, List.setIfInBounds_toArray, List.set_cons_zero, List.set_cons_succ]
              (refine wpZ_take (i := 10) (oi := { dst := some 39, op := Go.Op.extract (Go.Operand.tmp 29) 1, type := 26, pos := "law.go:215", after := #[{ on := 8, ground := Go.Ground.data }, { on := 11, ground := Go.Ground.gcOnly Go.Departure.lateStores }], guard := none }) (v := ?_) rfl (by kernel_rfl) (fun _ _ _ h => h) (by assumption) (Or.inl ⟨by rfl, ?_⟩) ?_; rotate_left 1; · ((intro w hSw; (try dsimp only at hSw); go_split_ands; go_simp) <;> (try with_reducible rfl)))
              try simp only [Act.put, List.setIfInBounds_toArray, List.set_cons_zero, List.set_cons_succ]
              (refine wpZ_take (i := 11) (oi := { dst := some 8, op := Go.Op.assign (Go.Operand.tmp 38), type := 3, pos := "law.go:215", after := #[{ on := 9, ground := Go.Ground.data }, { on := 7, ground := Go.Ground.chain }, { on := 0, ground := Go.Ground.phase }, { on := 1, ground := Go.Ground.phase }, { on := 2, ground := Go.Ground.phase }, { on := 3, ground := Go.Ground.phase }, { on := 4, ground := Go.Ground.phase }, { on := 5, ground := Go.Ground.phase }, { on := 6, ground := Go.Ground.phase }, { on := 7, ground := Go.Ground.phase }, { on := 8, ground := Go.Ground.phase }, { on := 9, ground := Go.Ground.phase }, { on := 10, ground := Go.Ground.textOnly Go.Departure.lateStores }], guard := none }) (v := ?_) rfl (by kernel_rfl) (fun _ _ _ h => h) (by assumption) (Or.inl ⟨by rfl, ?_⟩) ?_; rotate_left 1; · ((intro w hSw; (try dsimp only at hSw); go_split_ands; go_simp) <;> (try with_reducible rfl)))
              try simp only [Act.put, List.setIfInBounds_toArray, List.set_cons_zero, List.set_cons_succ]
              refine wpZ_one (i := 12) (oi := { dst := some 9, op := Go.Op.assign (Go.Operand.tmp 39), type := 26, pos := "law.go:215", after := #[{ on := 10, ground := Go.Ground.data }, { on := 11, ground := Go.Ground.chain }, { on := 0, ground := Go.Ground.phase }, { on := 1, ground := Go.Ground.phase }, { on := 2, ground := Go.Ground.phase }, { on := 3, ground := Go.Ground.phase }, { on := 4, ground := Go.Ground.phase }, { on := 5, ground := Go.Ground.phase }, { on := 6, ground := Go.Ground.phase }, { on := 7, ground := Go.Ground.phase }, { on := 8, ground := Go.Ground.phase }, { on := 9, ground := Go.Ground.phase }, { on := 10, ground := Go.Ground.phase }, { on := 11, ground := Go.Ground.phase }], guard := none }) rfl (by kernel_rfl) (fun K hK => ?_)
              go_simp
              refine hK.out _ _ (fun h => by simp at h) (fun _ => ?_)
              clear hK K
              try simp only [Act.put, List.setIfInBounds_toArray, List.set_cons_zero, List.set_cons_succ]
              refine wpZ_done (by kernel_rfl) ?_ _
              have t1 : IntKind.i64.wrap 70 = 70 := (by decide); have t2 : IntKind.u64.wrap 70 = 70 := (by decide); have t3 : IntKind.u64.wrap 7 = 7 := (by decide); clear HF HKF; go_wp2_with fail; refine (iv7 _ _ MM wM wM hp _ HM.out.2.1 HM.out.2.2 (Below.refl _ _)).mono ?_; rintro e wI ⟨rfl, hbI, MI, hMI, RI⟩; have HN := Lib.hid (And.intro (HM.out.1.trans (hbI.mono HW.out)) (And.intro hMI RI)); clear hbI hMI RI; go_wp2; go_roundw; (case rel => (first | exact ⟨8, (by have := HLT.out; omega), (by first | rfl | go_num), HN.out.1, MI, HN.out.2⟩ | ((repeat (apply Exists.intro)); refine And.intro ?_ ?_; rotate_left; (focus rfl); (focus exact ⟨8, (by have := HLT.out; omega), (by first | rfl | go_num), HN.out.1, MI, HN.out.2⟩)))); (case measure => (simp [intOf]; (try (have := HLT.out; omega))))
        · have HLT := Lib.hid hlt
          have d0 : decide ((8 : Int) < (kk : Int)) = true := decide_eq_true (by omega)
          have d0n : decide (8 < kk) = true := decide_eq_true (by omega)
          have hch : IntKind.u8.wrap (IntKind.i64.wrap 105) = 105 := by decide
          clear hlt hj
          go_upto_region 10 with (fail)
          refine wp_region_z (fun w' => wr.heap.size ≤ w'.heap.size) (fun j => j == 12) (by kernel_rfl) ?_ (fun hHeld => ?_)
          · first | exact hsz | exact Nat.le_refl _ | (have h9 := hs1; simp <;> omega)
          (refine wpZ_take (i := 0) (oi := { dst := some 30, op := Go.Op.move (Go.Operand.tmp 5), type := 24, pos := "law.go:215", after := #[], guard := none }) (v := ?_) rfl (by kernel_rfl) (fun _ _ _ h => h) (by assumption) (Or.inl ⟨by rfl, ?_⟩) ?_; rotate_left 1; · ((intro w hSw; (try dsimp only at hSw); go_split_ands; go_simp) <;> (try with_reducible rfl)))
          try simp only [Act.put, List.setIfInBounds_toArray, List.set_cons_zero, List.set_cons_succ]
          (refine wpZ_take (i := 2) (oi := { dst := some 32, op := Go.Op.move (Go.Operand.tmp 7), type := 3, pos := "law.go:215", after := #[], guard := none }) (v := ?_) rfl (by kernel_rfl) (fun _ _ _ h => h) (by assumption) (Or.inl ⟨by rfl, ?_⟩) ?_; rotate_left 1; · ((intro w hSw; (try dsimp only at hSw); go_split_ands; go_simp) <;> (try with_reducible rfl)))
          try simp only [Act.put, List.setIfInBounds_toArray, List.set_cons_zero, List.set_cons_succ]
          (refine wpZ_take (i := 3) (oi := { dst := some 33, op := Go.Op.binOp Go.BinOp.add 3 (Go.Operand.const (Go.Value.int Go.IntKind.i64 97)) (Go.Operand.tmp 32) 3, type := 3, pos := "law.go:215", after := #[{ on := 2, ground := Go.Ground.data }], guard := none }) (v := ?_) rfl (by kernel_rfl) (fun _ _ _ h => h) (by assumption) (Or.inl ⟨by rfl, ?_⟩) ?_; rotate_left 1; · ((intro w hSw; (try dsimp only at hSw); go_split_ands; go_simp) <;> (try with_reducible rfl)))
          try simp only [Act.put, List.setIfInBounds_toArray, List.set_cons_zero, List.set_cons_succ]
          (refine wpZ_take (i := 4) (oi := { dst := some 34, op := Go.Op.convert 3 5 (Go.Operand.tmp 33), type := 5, pos := "law.go:215", after := #[{ on := 3, ground := Go.Ground.data }], guard := none }) (v := ?_) rfl (by kernel_rfl) (fun _ _ _ h => h) (by assumption) (Or.inl ⟨by rfl, ?_⟩) ?_; rotate_left 1; · ((intro w hSw; (try dsimp only at hSw); go_split_ands; go_simp) <;> (try with_reducible rfl)))
          try simp only [Act.put, List.setIfInBounds_toArray, List.set_cons_zero, List.set_cons_succ]
          refine wpZ_two (i := 1) (j := 5) (oi := { dst := some 31, op := Go.Op.call { callee := Go.Callee.value (Go.Operand.func 9), args := #[], argTypes := #[] }, type := 40, pos := "law.go:215", after := #[], guard := none }) (oj := { dst := some 35, op := Go.Op.buildSlice 22 2 #[(0, Go.Operand.const (Go.Value.int Go.IntKind.u8 114)), (1, Go.Operand.tmp 34)], type := 22, pos := "law.go:215", after := #[{ on := 4, ground := Go.Ground.data }], guard := none }) rfl rfl (by kernel_rfl) (fun K hK => ?_) (fun K hK => ?_)
          ·
            go_simp; have hs1 := hHeld; refine (fx8 _ _ _ wr _ hp HR.out.2.1 HR.out.2.2 (by first | exact ⟨rfl, rfl, rfl, Nat.le_refl _, fun _ _ => rfl⟩ | exact ⟨hcur.1, hcur.2, hcur.3, hcur.4, hcur.5⟩)).mono ?_; rintro e wF ⟨rF, MF, rfl, hbF, hkF, hMF, RF, vF⟩; have hsz : wr.heap.size ≤ wF.heap.size := Nat.le_trans hs1 hbF.size; have HKF := Lib.hid hkF; have hbW : Below W.heap.size W wF := HR.out.1.trans (Below.trans (by first | exact ⟨rfl, rfl, rfl, Nat.le_refl _, fun _ _ => rfl⟩ | exact Below.mono (B := wr.heap.size) ⟨hcur.1, hcur.2, hcur.3, hcur.4, hcur.5⟩ HR.out.1.size) (hbF.mono HW.out)); have HF := Lib.hid (And.intro hbW (And.intro hMF (And.intro RF vF))); clear hbF hbW hMF RF vF hkF hs1 hHeld; go_wp2_with fail
            refine hK.out _ _ (fun _ => by (first | exact hsz | exact Nat.le_refl _ | (have h9 := hs1; simp <;> omega))) (fun hh => ?_)
            have hHeld := hh rfl
            clear hK K
            try simp only [Act.put, List.setIfInBounds_toArray, List.set_cons_zero, List.set_cons_succ]
            refine wpZ_one (i := 5) (oi := { dst := some 35, op := Go.Op.buildSlice 22 2 #[(0, Go.Operand.const (Go.Value.int Go.IntKind.u8 114)), (1, Go.Operand.tmp 34)], type := 22, pos := "law.go:215", after := #[{ on := 4, ground := Go.Ground.data }], guard := none }) rfl (by kernel_rfl) (fun K hK => ?_)
            go_simp; have hs1 := hHeld; have hcur := (Below.refl wr.heap.size wr).alloc (Nat.le_refl _) (.cells #[.int .u8 114, .int .u8 105] 5); have hlt5 : wr.heap.size < (wr.alloc (.cells #[.int .u8 114, .int .u8 105] 5)).drew.heap.size := (by show wr.heap.size < (wr.alloc _).heap.size; simp)
            refine hK.out _ _ (fun _ => by (first | exact hsz | exact Nat.le_refl _ | (have h9 := hs1; simp <;> omega))) (fun hh => ?_)
            have hHeld := hh rfl
            clear hK K
            try simp only [Act.put, List.setIfInBounds_toArray, List.set_cons_zero, List.set_cons_succ]
            refine wpZ_one (i := 6) (oi := { dst := some 36, op := Go.Op.convert 22 9 (Go.Operand.tmp 35), type := 9, pos := "law.go:215", after := #[{ on := 5, ground := Go.Ground.data }], guard := none }) rfl (by kernel_rfl) (fun K hK => ?_)
            have hs1 := hHeld; have hsz := hHeld; (first | (have hcv := convK 105 (by decide) (HKF.out wr.heap.size (Nat.le_refl _) hlt5)) | (have hcv := convN wF 105 105 (by decide)) | (have hcv := convD wr 105 105 (by decide))); go_simp; clear hcv
            refine hK.out _ _ (fun _ => by (first | exact hsz | exact Nat.le_refl _ | (have h9 := hs1; simp <;> omega))) (fun hh => ?_)
            have hHeld := hh rfl
            clear hK K
            try simp only [Act.put, List.setIfInBounds_toArray, List.set_cons_zero, List.set_cons_succ]
            refine wpZ_one (i := 7) (oi := { dst := some 37, op := Go.Op.call { callee := Go.Callee.value (Go.Operand.func 8), args := #[Go.Operand.tmp 30, Go.Operand.tmp 31, Go.Operand.tmp 36], argTypes := #[24, 40, 9] }, type := 27, pos := "law.go:215", after := #[{ on := 0, ground := Go.Ground.data }, { on := 1, ground := Go.Ground.data }, { on := 6, ground := Go.Ground.data }, { on := 1, ground := Go.Ground.chain }], guard := none }) rfl (by kernel_rfl) (fun K hK => ?_)
            go_simp; clear hHeld; refine (mk8 _ _ MF wF _ hp rF HF.out.2.1 HF.out.2.2.1 HF.out.2.2.2 (by first | exact Below.refl _ _ | exact (Below.refl wF.heap.size wF).alloc (Nat.le_refl _) _)).mono ?_; rintro e wM ⟨rfl, hbM, MM, hMM, RM⟩; have hs2 : wF.heap.size ≤ wM.heap.size := Nat.le_trans (by first | exact Nat.le_refl _ | (simp <;> omega)) hbM.size; have hs1 : wr.heap.size ≤ wF.heap.size := (by first | exact hsz | (have h9 := hsz; omega)); have hsz := Nat.le_trans hs1 hs2; have hbX : Below W.heap.size W wM := HF.out.1.trans (Below.trans (by first | exact Below.refl _ _ | exact (Below.refl _ wF).alloc HF.out.1.size _) (hbM.mono HW.out)); have HM := Lib.hid (And.intro hbX (And.intro hMM RM)); clear hbM hMM RM hbX hs2; go_wp2_with fail
            refine hK.out _ _ (fun _ => by (first | exact hsz | exact Nat.le_refl _ | (have h9 := hs1; simp <;> omega))) (fun hh => ?_)
            have hHeld := hh rfl
            clear hK K
            try simp only [Act.put, List.setIfInBounds_toArray, List.set_cons_zero, List.set_cons_succ]
            (refine wpZ_take (i := 8) (oi := { dst := some 29, op := Go.Op.move (Go.Operand.tmp 37), type := 27, pos := "law.go:215", after := #[{ on := 7, ground := Go.Ground.data }], guard := none }) (v := ?_) rfl (by kernel_rfl) (fun _ _ _ h => h) (by assumption) (Or.inl ⟨by rfl, ?_⟩) ?_; rotate_left 1; · ((intro w hSw; (try dsimp only at hSw); go_split_ands; go_simp) <;> (try with_reducible rfl)))
            try simp only [Act.put, List.setIfInBounds_toArray, List.set_cons_zero, List.set_cons_succ]
            (refine wpZ_take (i := 9) (oi := { dst := some 38, op := Go.Op.extract (Go.Operand.tmp 29) 0, type := 3, pos := "law.go:215", after := #[{ on := 8, ground := Go.Ground.data }], guard := none }) (v := ?_) rfl (by kernel_rfl) (fun _ _ _ h => h) (by assumption) (Or.inl ⟨by rfl, ?_⟩) ?_; rotate_left 1; · ((intro w hSw; (try dsimp only at hSw); go_split_ands; go_simp) <;> (try with_reducible rfl)))
            try simp only [Act.put, List.setIfInBounds_toArray, List.set_cons_zero, List.set_cons_succ]
            (refine wpZ_take (i := 10) (oi := { dst := some 39, op := Go.Op.extract (Go.Operand.tmp 29) 1, type := 26, pos := "law.go:215", after := #[{ on := 8, ground := Go.Ground.data }, { on := 11, ground := Go.Ground.gcOnly Go.Departure.lateStores }], guard := none }) (v := ?_) rfl (by kernel_rfl) (fun _ _ _ h => h) (by assumption) (Or.inl ⟨by rfl, ?_⟩) ?_; rotate_left 1; · ((intro w hSw; (try dsimp only at hSw); go_split_ands; go_simp) <;> (try with_reducible rfl)))
            try simp only [Act.put, List.setIfInBounds_toArray, List.set_cons_zero, List.set_cons_succ]
            (refine wpZ_take (i := 11) (oi := { dst := some 8, op := Go.Op.assign (Go.Operand.tmp 38), type := 3, pos := "law.go:215", after := #[{ on := 9, ground := Go.Ground.data }, { on := 7, ground := Go.Ground.chain }, { on := 0, ground := Go.Ground.phase }, { on := 1, ground := Go.Ground.phase }, { on := 2, ground := Go.Ground.phase }, { on := 3, ground := Go.Ground.phase }, { on := 4, ground := Go.Ground.phase }, { on := 5, ground := Go.Ground.phase }, { on := 6, ground := Go.Ground.phase }, { on := 7, ground := Go.Ground.phase }, { on := 8, ground := Go.Ground.phase }, { on := 9, ground := Go.Ground.phase }, { on := 10, ground := Go.Ground.textOnly Go.Departure.lateStores }], guard := none }) (v := ?_) rfl (by kernel_rfl) (fun _ _ _ h => h) (by assumption) (Or.inl ⟨by rfl, ?_⟩) ?_; rotate_left 1; · ((intro w hSw; (try dsimp only at hSw); go_split_ands; go_simp) <;> (try with_reducible rfl)))
            try simp only [Act.put, List.setIfInBounds_toArray, List.set_cons_zero, List.set_cons_succ]
            refine wpZ_one (i := 12) (oi := { dst := some 9, op := Go.Op.assign (Go.Operand.tmp 39), type := 26, pos := "law.go:215", after := #[{ on := 10, ground := Go.Ground.data }, { on := 11, ground := Go.Ground.chain }, { on := 0, ground := Go.Ground.phase }, { on := 1, ground := Go.Ground.phase }, { on := 2, ground := Go.Ground.phase }, { on := 3, ground := Go.Ground.phase }, { on := 4, ground := Go.Ground.phase }, { on := 5, ground := Go.Ground.phase }, { on := 6, ground := Go.Ground.phase }, { on := 7, ground := Go.Ground.phase }, { on := 8, ground := Go.Ground.phase }, { on := 9, ground := Go.Ground.phase }, { on := 10, ground := Go.Ground.phase }, { on := 11, ground := Go.Ground.phase }], guard := none }) rfl (by kernel_rfl) (fun K hK => ?_)
            go_simp
            refine hK.out _ _ (fun h => by simp at h) (fun _ => ?_)
            clear hK K
            try simp only [Act.put, List.setIfInBounds_toArray, List.set_cons_zero, List.set_cons_succ]
            refine wpZ_done (by kernel_rfl) ?_ _
            clear HF HKF; go_wp2; go_roundw; (case rel => (first | exact ⟨9, (by have := HLT.out; omega), (by first | rfl | go_num), HM.out.1, MM, HM.out.2⟩ | ((repeat (apply Exists.intro)); refine And.intro ?_ ?_; rotate_left; (focus rfl); (focus exact ⟨9, (by have := HLT.out; omega), (by first | rfl | go_num), HM.out.1, MM, HM.out.2⟩)))); (case measure => (simp [intOf]; (try (have := HLT.out; omega))))
          ·
            go_simp; have hs1 := hHeld; have hcur := (Below.refl wr.heap.size wr).alloc (Nat.le_refl _) (.cells #[.int .u8 114, .int .u8 105] 5); have hlt5 : wr.heap.size < (wr.alloc (.cells #[.int .u8 114, .int .u8 105] 5)).drew.heap.size := (by show wr.heap.size < (wr.alloc _).heap.size; simp)
            refine hK.out _ _ (fun _ => by (first | exact hsz | exact Nat.le_refl _ | (have h9 := hs1; simp <;> omega))) (fun hh => ?_)
            have hHeld := hh rfl
            clear hK K
            try simp only [Act.put, List.setIfInBounds_toArray, List.set_cons_zero, List.set_cons_succ]
            refine wpZ_two (i := 1) (j := 6) (oi := { dst := some 31, op := Go.Op.call { callee := Go.Callee.value (Go.Operand.func 9), args := #[], argTypes := #[] }, type := 40, pos := "law.go:215", after := #[], guard := none }) (oj := { dst := some 36, op := Go.Op.convert 22 9 (Go.Operand.tmp 35), type := 9, pos := "law.go:215", after := #[{ on := 5, ground := Go.Ground.data }], guard := none }) rfl rfl (by kernel_rfl) (fun K hK => ?_) (fun K hK => ?_)
            ·
              go_simp; have hs1 := hHeld; refine (fx8 _ _ _ wr _ hp HR.out.2.1 HR.out.2.2 (by first | exact ⟨rfl, rfl, rfl, Nat.le_refl _, fun _ _ => rfl⟩ | exact ⟨hcur.1, hcur.2, hcur.3, hcur.4, hcur.5⟩)).mono ?_; rintro e wF ⟨rF, MF, rfl, hbF, hkF, hMF, RF, vF⟩; have hsz : wr.heap.size ≤ wF.heap.size := Nat.le_trans hs1 hbF.size; have HKF := Lib.hid hkF; have hbW : Below W.heap.size W wF := HR.out.1.trans (Below.trans (by first | exact ⟨rfl, rfl, rfl, Nat.le_refl _, fun _ _ => rfl⟩ | exact Below.mono (B := wr.heap.size) ⟨hcur.1, hcur.2, hcur.3, hcur.4, hcur.5⟩ HR.out.1.size) (hbF.mono HW.out)); have HF := Lib.hid (And.intro hbW (And.intro hMF (And.intro RF vF))); clear hbF hbW hMF RF vF hkF hs1 hHeld; go_wp2_with fail
              refine hK.out _ _ (fun _ => by (first | exact hsz | exact Nat.le_refl _ | (have h9 := hs1; simp <;> omega))) (fun hh => ?_)
              have hHeld := hh rfl
              clear hK K
              try simp only [Act.put, List.setIfInBounds_toArray, List.set_cons_zero, List.set_cons_succ]
              refine wpZ_one (i := 6) (oi := { dst := some 36, op := Go.Op.convert 22 9 (Go.Operand.tmp 35), type := 9, pos := "law.go:215", after := #[{ on := 5, ground := Go.Ground.data }], guard := none }) rfl (by kernel_rfl) (fun K hK => ?_)
              have hs1 := hHeld; have hsz := hHeld; (first | (have hcv := convK 105 (by decide) (HKF.out wr.heap.size (Nat.le_refl _) hlt5)) | (have hcv := convN wF 105 105 (by decide)) | (have hcv := convD wr 105 105 (by decide))); go_simp; clear hcv
              refine hK.out _ _ (fun _ => by (first | exact hsz | exact Nat.le_refl _ | (have h9 := hs1; simp <;> omega))) (fun hh => ?_)
              have hHeld := hh rfl
              clear hK K
              try simp only [Act.put, List.setIfInBounds_toArray, List.set_cons_zero, List.set_cons_succ]
              refine wpZ_one (i := 7) (oi := { dst := some 37, op := Go.Op.call { callee := Go.Callee.value (Go.Operand.func 8), args := #[Go.Operand.tmp 30, Go.Operand.tmp 31, Go.Operand.tmp 36], argTypes := #[24, 40, 9] }, type := 27, pos := "law.go:215", after := #[{ on := 0, ground := Go.Ground.data }, { on := 1, ground := Go.Ground.data }, { on := 6, ground := Go.Ground.data }, { on := 1, ground := Go.Ground.chain }], guard := none }) rfl (by kernel_rfl) (fun K hK => ?_)
              go_simp; clear hHeld; refine (mk8 _ _ MF wF _ hp rF HF.out.2.1 HF.out.2.2.1 HF.out.2.2.2 (by first | exact Below.refl _ _ | exact (Below.refl wF.heap.size wF).alloc (Nat.le_refl _) _)).mono ?_; rintro e wM ⟨rfl, hbM, MM, hMM, RM⟩; have hs2 : wF.heap.size ≤ wM.heap.size := Nat.le_trans (by first | exact Nat.le_refl _ | (simp <;> omega)) hbM.size; have hs1 : wr.heap.size ≤ wF.heap.size := (by first | exact hsz | (have h9 := hsz; omega)); have hsz := Nat.le_trans hs1 hs2; have hbX : Below W.heap.size W wM := HF.out.1.trans (Below.trans (by first | exact Below.refl _ _ | exact (Below.refl _ wF).alloc HF.out.1.size _) (hbM.mono HW.out)); have HM := Lib.hid (And.intro hbX (And.intro hMM RM)); clear hbM hMM RM hbX hs2; go_wp2_with fail
              refine hK.out _ _ (fun _ => by (first | exact hsz | exact Nat.le_refl _ | (have h9 := hs1; simp <;> omega))) (fun hh => ?_)
              have hHeld := hh rfl
              clear hK K
              try simp only [Act.put, List.setIfInBounds_toArray, List.set_cons_zero, List.set_cons_succ]
              (refine wpZ_take (i := 8) (oi := { dst := some 29, op := Go.Op.move (Go.Operand.tmp 37), type := 27, pos := "law.go:215", after := #[{ on := 7, ground := Go.Ground.data }], guard := none }) (v := ?_) rfl (by kernel_rfl) (fun _ _ _ h => h) (by assumption) (Or.inl ⟨by rfl, ?_⟩) ?_; rotate_left 1; · ((intro w hSw; (try dsimp only at hSw); go_split_ands; go_simp) <;> (try with_reducible rfl)))
              try simp only [Act.put, List.setIfInBounds_toArray, List.set_cons_zero, List.set_cons_succ]
              (refine wpZ_take (i := 9) (oi := { dst := some 38, op := Go.Op.extract (Go.Operand.tmp 29) 0, type := 3, pos := "law.go:215", after := #[{ on := 8, ground := Go.Ground.data }], guard := none }) (v := ?_) rfl (by kernel_rfl) (fun _ _ _ h => h) (by assumption) (Or.inl ⟨by rfl, ?_⟩) ?_; rotate_left 1; · ((intro w hSw; (try dsimp only at hSw); go_split_ands; go_simp) <;> (try with_reducible rfl)))
              try simp only [Act.put, List.setIfInBounds_toArray, List.set_cons_zero, List.set_cons_succ]
              (refine wpZ_take (i := 10) (oi := { dst := some 39, op := Go.Op.extract (Go.Operand.tmp 29) 1, type := 26, pos := "law.go:215", after := #[{ on := 8, ground := Go.Ground.data }, { on := 11, ground := Go.Ground.gcOnly Go.Departure.lateStores }], guard := none }) (v := ?_) rfl (by kernel_rfl) (fun _ _ _ h => h) (by assumption) (Or.inl ⟨by rfl, ?_⟩) ?_; rotate_left 1; · ((intro w hSw; (try dsimp only at hSw); go_split_ands; go_simp) <;> (try with_reducible rfl)))
              try simp only [Act.put, List.setIfInBounds_toArray, List.set_cons_zero, List.set_cons_succ]
              (refine wpZ_take (i := 11) (oi := { dst := some 8, op := Go.Op.assign (Go.Operand.tmp 38), type := 3, pos := "law.go:215", after := #[{ on := 9, ground := Go.Ground.data }, { on := 7, ground := Go.Ground.chain }, { on := 0, ground := Go.Ground.phase }, { on := 1, ground := Go.Ground.phase }, { on := 2, ground := Go.Ground.phase }, { on := 3, ground := Go.Ground.phase }, { on := 4, ground := Go.Ground.phase }, { on := 5, ground := Go.Ground.phase }, { on := 6, ground := Go.Ground.phase }, { on := 7, ground := Go.Ground.phase }, { on := 8, ground := Go.Ground.phase }, { on := 9, ground := Go.Ground.phase }, { on := 10, ground := Go.Ground.textOnly Go.Departure.lateStores }], guard := none }) (v := ?_) rfl (by kernel_rfl) (fun _ _ _ h => h) (by assumption) (Or.inl ⟨by rfl, ?_⟩) ?_; rotate_left 1; · ((intro w hSw; (try dsimp only at hSw); go_split_ands; go_simp) <;> (try with_reducible rfl)))
              try simp only [Act.put, List.setIfInBounds_toArray, List.set_cons_zero, List.set_cons_succ]
              refine wpZ_one (i := 12) (oi := { dst := some 9, op := Go.Op.assign (Go.Operand.tmp 39), type := 26, pos := "law.go:215", after := #[{ on := 10, ground := Go.Ground.data }, { on := 11, ground := Go.Ground.chain }, { on := 0, ground := Go.Ground.phase }, { on := 1, ground := Go.Ground.phase }, { on := 2, ground := Go.Ground.phase }, { on := 3, ground := Go.Ground.phase }, { on := 4, ground := Go.Ground.phase }, { on := 5, ground := Go.Ground.phase }, { on := 6, ground := Go.Ground.phase }, { on := 7, ground := Go.Ground.phase }, { on := 8, ground := Go.Ground.phase }, { on := 9, ground := Go.Ground.phase }, { on := 10, ground := Go.Ground.phase }, { on := 11, ground := Go.Ground.phase }], guard := none }) rfl (by kernel_rfl) (fun K hK => ?_)
              go_simp
              refine hK.out _ _ (fun h => by simp at h) (fun _ => ?_)
              clear hK K
              try simp only [Act.put, List.setIfInBounds_toArray, List.set_cons_zero, List.set_cons_succ]
              refine wpZ_done (by kernel_rfl) ?_ _
              clear HF HKF; go_wp2; go_roundw; (case rel => (first | exact ⟨9, (by have := HLT.out; omega), (by first | rfl | go_num), HM.out.1, MM, HM.out.2⟩ | ((repeat (apply Exists.intro)); refine And.intro ?_ ?_; rotate_left; (focus rfl); (focus exact ⟨9, (by have := HLT.out; omega), (by first | rfl | go_num), HM.out.1, MM, HM.out.2⟩)))); (case measure => (simp [intOf]; (try (have := HLT.out; omega))))
            ·
              have hs1 := hHeld; have hsz := hHeld; (first | (have hcv := convK 105 (by decide) (HKF.out wr.heap.size (Nat.le_refl _) hlt5)) | (have hcv := convN wF 105 105 (by decide)) | (have hcv := convD wr 105 105 (by decide))); go_simp; clear hcv
              refine hK.out _ _ (fun _ => by (first | exact hsz | exact Nat.le_refl _ | (have h9 := hs1; simp <;> omega))) (fun hh => ?_)
              have hHeld := hh rfl
              clear hK K
              try simp only [Act.put, List.setIfInBounds_toArray, List.set_cons_zero, List.set_cons_succ]
              refine wpZ_one (i := 1) (oi := { dst := some 31, op := Go.Op.call { callee := Go.Callee.value (Go.Operand.func 9), args := #[], argTypes := #[] }, type := 40, pos := "law.go:215", after := #[], guard := none }) rfl (by kernel_rfl) (fun K hK => ?_)
              go_simp; have hs1 := hHeld; refine (fx8 _ _ _ wr _ hp HR.out.2.1 HR.out.2.2 (by first | exact ⟨rfl, rfl, rfl, Nat.le_refl _, fun _ _ => rfl⟩ | exact ⟨hcur.1, hcur.2, hcur.3, hcur.4, hcur.5⟩)).mono ?_; rintro e wF ⟨rF, MF, rfl, hbF, hkF, hMF, RF, vF⟩; have hsz : wr.heap.size ≤ wF.heap.size := Nat.le_trans hs1 hbF.size; have HKF := Lib.hid hkF; have hbW : Below W.heap.size W wF := HR.out.1.trans (Below.trans (by first | exact ⟨rfl, rfl, rfl, Nat.le_refl _, fun _ _ => rfl⟩ | exact Below.mono (B := wr.heap.size) ⟨hcur.1, hcur.2, hcur.3, hcur.4, hcur.5⟩ HR.out.1.size) (hbF.mono HW.out)); have HF := Lib.hid (And.intro hbW (And.intro hMF (And.intro RF vF))); clear hbF hbW hMF RF vF hkF hs1 hHeld; go_wp2_with fail
              refine hK.out _ _ (fun _ => by (first | exact hsz | exact Nat.le_refl _ | (have h9 := hs1; simp <;> omega))) (fun hh => ?_)
              have hHeld := hh rfl
              clear hK K
              try simp only [Act.put, List.setIfInBounds_toArray, List.set_cons_zero, List.set_cons_succ]
              refine wpZ_one (i := 7) (oi := { dst := some 37, op := Go.Op.call { callee := Go.Callee.value (Go.Operand.func 8), args := #[Go.Operand.tmp 30, Go.Operand.tmp 31, Go.Operand.tmp 36], argTypes := #[24, 40, 9] }, type := 27, pos := "law.go:215", after := #[{ on := 0, ground := Go.Ground.data }, { on := 1, ground := Go.Ground.data }, { on := 6, ground := Go.Ground.data }, { on := 1, ground := Go.Ground.chain }], guard := none }) rfl (by kernel_rfl) (fun K hK => ?_)
              go_simp; clear hHeld; refine (mk8 _ _ MF wF _ hp rF HF.out.2.1 HF.out.2.2.1 HF.out.2.2.2 (by first | exact Below.refl _ _ | exact (Below.refl wF.heap.size wF).alloc (Nat.le_refl _) _)).mono ?_; rintro e wM ⟨rfl, hbM, MM, hMM, RM⟩; have hs2 : wF.heap.size ≤ wM.heap.size := Nat.le_trans (by first | exact Nat.le_refl _ | (simp <;> omega)) hbM.size; have hs1 : wr.heap.size ≤ wF.heap.size := (by first | exact hsz | (have h9 := hsz; omega)); have hsz := Nat.le_trans hs1 hs2; have hbX : Below W.heap.size W wM := HF.out.1.trans (Below.trans (by first | exact Below.refl _ _ | exact (Below.refl _ wF).alloc HF.out.1.size _) (hbM.mono HW.out)); have HM := Lib.hid (And.intro hbX (And.intro hMM RM)); clear hbM hMM RM hbX hs2; go_wp2_with fail
              refine hK.out _ _ (fun _ => by (first | exact hsz | exact Nat.le_refl _ | (have h9 := hs1; simp <;> omega))) (fun hh => ?_)
              have hHeld := hh rfl
              clear hK K
              try simp only [Act.put, List.setIfInBounds_toArray, List.set_cons_zero, List.set_cons_succ]
              (refine wpZ_take (i := 8) (oi := { dst := some 29, op := Go.Op.move (Go.Operand.tmp 37), type := 27, pos := "law.go:215", after := #[{ on := 7, ground := Go.Ground.data }], guard := none }) (v := ?_) rfl (by kernel_rfl) (fun _ _ _ h => h) (by assumption) (Or.inl ⟨by rfl, ?_⟩) ?_; rotate_left 1; · ((intro w hSw; (try dsimp only at hSw); go_split_ands; go_simp) <;> (try with_reducible rfl)))
              try simp only [Act.put, List.setIfInBounds_toArray, List.set_cons_zero, List.set_cons_succ]
              (refine wpZ_take (i := 9) (oi := { dst := some 38, op := Go.Op.extract (Go.Operand.tmp 29) 0, type := 3, pos := "law.go:215", after := #[{ on := 8, ground := Go.Ground.data }], guard := none }) (v := ?_) rfl (by kernel_rfl) (fun _ _ _ h => h) (by assumption) (Or.inl ⟨by rfl, ?_⟩) ?_; rotate_left 1; · ((intro w hSw; (try dsimp only at hSw); go_split_ands; go_simp) <;> (try with_reducible rfl)))
              try simp only [Act.put, List.setIfInBounds_toArray, List.set_cons_zero, List.set_cons_succ]
              (refine wpZ_take (i := 10) (oi := { dst := some 39, op := Go.Op.extract (Go.Operand.tmp 29) 1, type := 26, pos := "law.go:215", after := #[{ on := 8, ground := Go.Ground.data }, { on := 11, ground := Go.Ground.gcOnly Go.Departure.lateStores }], guard := none }) (v := ?_) rfl (by kernel_rfl) (fun _ _ _ h => h) (by assumption) (Or.inl ⟨by rfl, ?_⟩) ?_; rotate_left 1; · ((intro w hSw; (try dsimp only at hSw); go_split_ands; go_simp) <;> (try with_reducible rfl)))
              try simp only [Act.put, List.setIfInBounds_toArray, List.set_cons_zero, List.set_cons_succ]
              (refine wpZ_take (i := 11) (oi := { dst := some 8, op := Go.Op.assign (Go.Operand.tmp 38), type := 3, pos := "law.go:215", after := #[{ on := 9, ground := Go.Ground.data }, { on := 7, ground := Go.Ground.chain }, { on := 0, ground := Go.Ground.phase }, { on := 1, ground := Go.Ground.phase }, { on := 2, ground := Go.Ground.phase }, { on := 3, ground := Go.Ground.phase }, { on := 4, ground := Go.Ground.phase }, { on := 5, ground := Go.Ground.phase }, { on := 6, ground := Go.Ground.phase }, { on := 7, ground := Go.Ground.phase }, { on := 8, ground := Go.Ground.phase }, { on := 9, ground := Go.Ground.phase }, { on := 10, ground := Go.Ground.textOnly Go.Departure.lateStores }], guard := none }) (v := ?_) rfl (by kernel_rfl) (fun _ _ _ h => h) (by assumption) (Or.inl ⟨by rfl, ?_⟩) ?_; rotate_left 1; · ((intro w hSw; (try dsimp only at hSw); go_split_ands; go_simp) <;> (try with_reducible rfl)))
              try simp only [Act.put, List.setIfInBounds_toArray, List.set_cons_zero, List.set_cons_succ]
              refine wpZ_one (i := 12) (oi := { dst := some 9, op := Go.Op.assign (Go.Operand.tmp 39), type := 26, pos := "law.go:215", after := #[{ on := 10, ground := Go.Ground.data }, { on := 11, ground := Go.Ground.chain }, { on := 0, ground := Go.Ground.phase }, { on := 1, ground := Go.Ground.phase }, { on := 2, ground := Go.Ground.phase }, { on := 3, ground := Go.Ground.phase }, { on := 4, ground := Go.Ground.phase }, { on := 5, ground := Go.Ground.phase }, { on := 6, ground := Go.Ground.phase }, { on := 7, ground := Go.Ground.phase }, { on := 8, ground := Go.Ground.phase }, { on := 9, ground := Go.Ground.phase }, { on := 10, ground := Go.Ground.phase }, { on := 11, ground := Go.Ground.phase }], guard := none }) rfl (by kernel_rfl) (fun K hK => ?_)
              go_simp
              refine hK.out _ _ (fun h => by simp at h) (fun _ => ?_)
              clear hK K
              try simp only [Act.put, List.setIfInBounds_toArray, List.set_cons_zero, List.set_cons_succ]
              refine wpZ_done (by kernel_rfl) ?_ _
              clear HF HKF; go_wp2; go_roundw; (case rel => (first | exact ⟨9, (by have := HLT.out; omega), (by first | rfl | go_num), HM.out.1, MM, HM.out.2⟩ | ((repeat (apply Exists.intro)); refine And.intro ?_ ?_; rotate_left; (focus rfl); (focus exact ⟨9, (by have := HLT.out; omega), (by first | rfl | go_num), HM.out.1, MM, HM.out.2⟩)))); (case measure => (simp [intOf]; (try (have := HLT.out; omega))))
        · have HLT := Lib.hid hlt
          have d0 : decide ((9 : Int) < (kk : Int)) = true := decide_eq_true (by omega)
          have d0n : decide (9 < kk) = true := decide_eq_true (by omega)
          have hch : IntKind.u8.wrap (IntKind.i64.wrap 106) = 106 := by decide
          clear hlt hj
          go_upto_region 10 with (fail)
          refine wp_region_z (fun w' => wr.heap.size ≤ w'.heap.size) (fun j => j == 12) (by kernel_rfl) ?_ (fun hHeld => ?_)
          · first | exact hsz | exact Nat.le_refl _ | (have h9 := hs1; simp <;> omega)
          (refine wpZ_take (i := 0) (oi := { dst := some 30, op := Go.Op.move (Go.Operand.tmp 5), type := 24, pos := "law.go:215", after := #[], guard := none }) (v := ?_) rfl (by kernel_rfl) (fun _ _ _ h => h) (by assumption) (Or.inl ⟨by rfl, ?_⟩) ?_; rotate_left 1; · ((intro w hSw; (try dsimp only at hSw); go_split_ands; go_simp) <;> (try with_reducible rfl)))
          try simp only [Act.put, List.setIfInBounds_toArray, List.set_cons_zero, List.set_cons_succ]
          (refine wpZ_take (i := 2) (oi := { dst := some 32, op := Go.Op.move (Go.Operand.tmp 7), type := 3, pos := "law.go:215", after := #[], guard := none }) (v := ?_) rfl (by kernel_rfl) (fun _ _ _ h => h) (by assumption) (Or.inl ⟨by rfl, ?_⟩) ?_; rotate_left 1; · ((intro w hSw; (try dsimp only at hSw); go_split_ands; go_simp) <;> (try with_reducible rfl)))
          try simp only [Act.put, List.setIfInBounds_toArray, List.set_cons_zero, List.set_cons_succ]
          (refine wpZ_take (i := 3) (oi := { dst := some 33, op := Go.Op.binOp Go.BinOp.add 3 (Go.Operand.const (Go.Value.int Go.IntKind.i64 97)) (Go.Operand.tmp 32) 3, type := 3, pos := "law.go:215", after := #[{ on := 2, ground := Go.Ground.data }], guard := none }) (v := ?_) rfl (by kernel_rfl) (fun _ _ _ h => h) (by assumption) (Or.inl ⟨by rfl, ?_⟩) ?_; rotate_left 1; · ((intro w hSw; (try dsimp only at hSw); go_split_ands; go_simp) <;> (try with_reducible rfl)))
          try simp only [Act.put, List.setIfInBounds_toArray, List.set_cons_zero, List.set_cons_succ]
          (refine wpZ_take (i := 4) (oi := { dst := some 34, op := Go.Op.convert 3 5 (Go.Operand.tmp 33), type := 5, pos := "law.go:215", after := #[{ on := 3, ground := Go.Ground.data }], guard := none }) (v := ?_) rfl (by kernel_rfl) (fun _ _ _ h => h) (by assumption) (Or.inl ⟨by rfl, ?_⟩) ?_; rotate_left 1; · ((intro w hSw; (try dsimp only at hSw); go_split_ands; go_simp) <;> (try with_reducible rfl)))
          try simp only [Act.put, List.setIfInBounds_toArray, List.set_cons_zero, List.set_cons_succ]
          refine wpZ_two (i := 1) (j := 5) (oi := { dst := some 31, op := Go.Op.call { callee := Go.Callee.value (Go.Operand.func 9), args := #[], argTypes := #[] }, type := 40, pos := "law.go:215", after := #[], guard := none }) (oj := { dst := some 35, op := Go.Op.buildSlice 22 2 #[(0, Go.Operand.const (Go.Value.int Go.IntKind.u8 114)), (1, Go.Operand.tmp 34)], type := 22, pos := "law.go:215", after := #[{ on := 4, ground := Go.Ground.data }], guard := none }) rfl rfl (by kernel_rfl) (fun K hK => ?_) (fun K hK => ?_)
          ·
            go_simp; have hs1 := hHeld; refine (fx9 _ _ _ wr _ hp HR.out.2.1 HR.out.2.2 (by first | exact ⟨rfl, rfl, rfl, Nat.le_refl _, fun _ _ => rfl⟩ | exact ⟨hcur.1, hcur.2, hcur.3, hcur.4, hcur.5⟩)).mono ?_; rintro e wF ⟨rF, MF, rfl, hbF, hkF, hMF, RF, vF⟩; have hsz : wr.heap.size ≤ wF.heap.size := Nat.le_trans hs1 hbF.size; have HKF := Lib.hid hkF; have hbW : Below W.heap.size W wF := HR.out.1.trans (Below.trans (by first | exact ⟨rfl, rfl, rfl, Nat.le_refl _, fun _ _ => rfl⟩ | exact Below.mono (B := wr.heap.size) ⟨hcur.1, hcur.2, hcur.3, hcur.4, hcur.5⟩ HR.out.1.size) (hbF.mono HW.out)); have HF := Lib.hid (And.intro hbW (And.intro hMF (And.intro RF vF))); clear hbF hbW hMF RF vF hkF hs1 hHeld; go_wp2_with fail
            refine hK.out _ _ (fun _ => by (first | exact hsz | exact Nat.le_refl _ | (have h9 := hs1; simp <;> omega))) (fun hh => ?_)
            have hHeld := hh rfl
            clear hK K
            try simp only [Act.put, List.setIfInBounds_toArray, List.set_cons_zero, List.set_cons_succ]
            refine wpZ_one (i := 5) (oi := { dst := some 35, op := Go.Op.buildSlice 22 2 #[(0, Go.Operand.const (Go.Value.int Go.IntKind.u8 114)), (1, Go.Operand.tmp 34)], type := 22, pos := "law.go:215", after := #[{ on := 4, ground := Go.Ground.data }], guard := none }) rfl (by kernel_rfl) (fun K hK => ?_)
            go_simp; have hs1 := hHeld; have hcur := (Below.refl wr.heap.size wr).alloc (Nat.le_refl _) (.cells #[.int .u8 114, .int .u8 106] 5); have hlt5 : wr.heap.size < (wr.alloc (.cells #[.int .u8 114, .int .u8 106] 5)).drew.heap.size := (by show wr.heap.size < (wr.alloc _).heap.size; simp)
            refine hK.out _ _ (fun _ => by (first | exact hsz | exact Nat.le_refl _ | (have h9 := hs1; simp <;> omega))) (fun hh => ?_)
            have hHeld := hh rfl
            clear hK K
            try simp only [Act.put, List.setIfInBounds_toArray, List.set_cons_zero, List.set_cons_succ]
            refine wpZ_one (i := 6) (oi := { dst := some 36, op := Go.Op.convert 22 9 (Go.Operand.tmp 35), type := 9, pos := "law.go:215", after := #[{ on := 5, ground := Go.Ground.data }], guard := none }) rfl (by kernel_rfl) (fun K hK => ?_)
            have hs1 := hHeld; have hsz := hHeld; (first | (have hcv := convK 106 (by decide) (HKF.out wr.heap.size (Nat.le_refl _) hlt5)) | (have hcv := convN wF 106 106 (by decide)) | (have hcv := convD wr 106 106 (by decide))); go_simp; clear hcv
            refine hK.out _ _ (fun _ => by (first | exact hsz | exact Nat.le_refl _ | (have h9 := hs1; simp <;> omega))) (fun hh => ?_)
            have hHeld := hh rfl
            clear hK K
            try simp only [Act.put, List.setIfInBounds_toArray, List.set_cons_zero, List.set_cons_succ]
            refine wpZ_one (i := 7) (oi := { dst := some 37, op := Go.Op.call { callee := Go.Callee.value (Go.Operand.func 8), args := #[Go.Operand.tmp 30, Go.Operand.tmp 31, Go.Operand.tmp 36], argTypes := #[24, 40, 9] }, type := 27, pos := "law.go:215", after := #[{ on := 0, ground := Go.Ground.data }, { on := 1, ground := Go.Ground.data }, { on := 6, ground := Go.Ground.data }, { on := 1, ground := Go.Ground.chain }], guard := none }) rfl (by kernel_rfl) (fun K hK => ?_)
            go_simp; clear hHeld; refine (mk9 _ _ MF wF _ hp rF HF.out.2.1 HF.out.2.2.1 HF.out.2.2.2 (by first | exact Below.refl _ _ | exact (Below.refl wF.heap.size wF).alloc (Nat.le_refl _) _)).mono ?_; rintro e wM ⟨rfl, hbM, MM, hMM, RM⟩; have hs2 : wF.heap.size ≤ wM.heap.size := Nat.le_trans (by first | exact Nat.le_refl _ | (simp <;> omega)) hbM.size; have hs1 : wr.heap.size ≤ wF.heap.size := (by first | exact hsz | (have h9 := hsz; omega)); have hsz := Nat.le_trans hs1 hs2; have hbX : Below W.heap.size W wM := HF.out.1.trans (Below.trans (by first | exact Below.refl _ _ | exact (Below.refl _ wF).alloc HF.out.1.size _) (hbM.mono HW.out)); have HM := Lib.hid (And.intro hbX (And.intro hMM RM)); clear hbM hMM RM hbX hs2; go_wp2_with fail
            refine hK.out _ _ (fun _ => by (first | exact hsz | exact Nat.le_refl _ | (have h9 := hs1; simp <;> omega))) (fun hh => ?_)
            have hHeld := hh rfl
            clear hK K
            try simp only [Act.put, List.setIfInBounds_toArray, List.set_cons_zero, List.set_cons_succ]
            (refine wpZ_take (i := 8) (oi := { dst := some 29, op := Go.Op.move (Go.Operand.tmp 37), type := 27, pos := "law.go:215", after := #[{ on := 7, ground := Go.Ground.data }], guard := none }) (v := ?_) rfl (by kernel_rfl) (fun _ _ _ h => h) (by assumption) (Or.inl ⟨by rfl, ?_⟩) ?_; rotate_left 1; · ((intro w hSw; (try dsimp only at hSw); go_split_ands; go_simp) <;> (try with_reducible rfl)))
            try simp only [Act.put, List.setIfInBounds_toArray, List.set_cons_zero, List.set_cons_succ]
            (refine wpZ_take (i := 9) (oi := { dst := some 38, op := Go.Op.extract (Go.Operand.tmp 29) 0, type := 3, pos := "law.go:215", after := #[{ on := 8, ground := Go.Ground.data }], guard := none }) (v := ?_) rfl (by kernel_rfl) (fun _ _ _ h => h) (by assumption) (Or.inl ⟨by rfl, ?_⟩) ?_; rotate_left 1; · ((intro w hSw; (try dsimp only at hSw); go_split_ands; go_simp) <;> (try with_reducible rfl)))
            try simp only [Act.put, List.setIfInBounds_toArray, List.set_cons_zero, List.set_cons_succ]
            (refine wpZ_take (i := 10) (oi := { dst := some 39, op := Go.Op.extract (Go.Operand.tmp 29) 1, type := 26, pos := "law.go:215", after := #[{ on := 8, ground := Go.Ground.data }, { on := 11, ground := Go.Ground.gcOnly Go.Departure.lateStores }], guard := none }) (v := ?_) rfl (by kernel_rfl) (fun _ _ _ h => h) (by assumption) (Or.inl ⟨by rfl, ?_⟩) ?_; rotate_left 1; · ((intro w hSw; (try dsimp only at hSw); go_split_ands; go_simp) <;> (try with_reducible rfl)))
            try simp only [Act.put, List.setIfInBounds_toArray, List.set_cons_zero, List.set_cons_succ]
            (refine wpZ_take (i := 11) (oi := { dst := some 8, op := Go.Op.assign (Go.Operand.tmp 38), type := 3, pos := "law.go:215", after := #[{ on := 9, ground := Go.Ground.data }, { on := 7, ground := Go.Ground.chain }, { on := 0, ground := Go.Ground.phase }, { on := 1, ground := Go.Ground.phase }, { on := 2, ground := Go.Ground.phase }, { on := 3, ground := Go.Ground.phase }, { on := 4, ground := Go.Ground.phase }, { on := 5, ground := Go.Ground.phase }, { on := 6, ground := Go.Ground.phase }, { on := 7, ground := Go.Ground.phase }, { on := 8, ground := Go.Ground.phase }, { on := 9, ground := Go.Ground.phase }, { on := 10, ground := Go.Ground.textOnly Go.Departure.lateStores }], guard := none }) (v := ?_) rfl (by kernel_rfl) (fun _ _ _ h => h) (by assumption) (Or.inl ⟨by rfl, ?_⟩) ?_; rotate_left 1; · ((intro w hSw; (try dsimp only at hSw); go_split_ands; go_simp) <;> (try with_reducible rfl)))
            try simp only [Act.put, List.setIfInBounds_toArray, List.set_cons_zero, List.set_cons_succ]
            refine wpZ_one (i := 12) (oi := { dst := some 9, op := Go.Op.assign (Go.Operand.tmp 39), type := 26, pos := "law.go:215", after := #[{ on := 10, ground := Go.Ground.data }, { on := 11, ground := Go.Ground.chain }, { on := 0, ground := Go.Ground.phase }, { on := 1, ground := Go.Ground.phase }, { on := 2, ground := Go.Ground.phase }, { on := 3, ground := Go.Ground.phase }, { on := 4, ground := Go.Ground.phase }, { on := 5, ground := Go.Ground.phase }, { on := 6, ground := Go.Ground.phase }, { on := 7, ground := Go.Ground.phase }, { on := 8, ground := Go.Ground.phase }, { on := 9, ground := Go.Ground.phase }, { on := 10, ground := Go.Ground.phase }, { on := 11, ground := Go.Ground.phase }], guard := none }) rfl (by kernel_rfl) (fun K hK => ?_)
            go_simp
            refine hK.out _ _ (fun h => by simp at h) (fun _ => ?_)
            clear hK K
            try simp only [Act.put, List.setIfInBounds_toArray, List.set_cons_zero, List.set_cons_succ]
            refine wpZ_done (by kernel_rfl) ?_ _
            clear HF HKF; go_wp2; go_roundw; (case rel => (first | exact ⟨10, (by have := HLT.out; omega), (by first | rfl | go_num), HM.out.1, MM, HM.out.2⟩ | ((repeat (apply Exists.intro)); refine And.intro ?_ ?_; rotate_left; (focus rfl); (focus exact ⟨10, (by have := HLT.out; omega), (by first | rfl | go_num), HM.out.1, MM, HM.out.2⟩)))); (case measure => (simp [intOf]; (try (have := HLT.out; omega))))
          ·
            go_simp; have hs1 := hHeld; have hcur := (Below.refl wr.heap.size wr).alloc (Nat.le_refl _) (.cells #[.int .u8 114, .int .u8 106] 5); have hlt5 : wr.heap.size < (wr.alloc (.cells #[.int .u8 114, .int .u8 106] 5)).drew.heap.size := (by show wr.heap.size < (wr.alloc _).heap.size; simp)
            refine hK.out _ _ (fun _ => by (first | exact hsz | exact Nat.le_refl _ | (have h9 := hs1; simp <;> omega))) (fun hh => ?_)
            have hHeld := hh rfl
            clear hK K
            try simp only [Act.put, List.setIfInBounds_toArray, List.set_cons_zero, List.set_cons_succ]
            refine wpZ_two (i := 1) (j := 6) (oi := { dst := some 31, op := Go.Op.call { callee := Go.Callee.value (Go.Operand.func 9), args := #[], argTypes := #[] }, type := 40, pos := "law.go:215", after := #[], guard := none }) (oj := { dst := some 36, op := Go.Op.convert 22 9 (Go.Operand.tmp 35), type := 9, pos := "law.go:215", after := #[{ on := 5, ground := Go.Ground.data }], guard := none }) rfl rfl (by kernel_rfl) (fun K hK => ?_) (fun K hK => ?_)
            ·
              go_simp; have hs1 := hHeld; refine (fx9 _ _ _ wr _ hp HR.out.2.1 HR.out.2.2 (by first | exact ⟨rfl, rfl, rfl, Nat.le_refl _, fun _ _ => rfl⟩ | exact ⟨hcur.1, hcur.2, hcur.3, hcur.4, hcur.5⟩)).mono ?_; rintro e wF ⟨rF, MF, rfl, hbF, hkF, hMF, RF, vF⟩; have hsz : wr.heap.size ≤ wF.heap.size := Nat.le_trans hs1 hbF.size; have HKF := Lib.hid hkF; have hbW : Below W.heap.size W wF := HR.out.1.trans (Below.trans (by first | exact ⟨rfl, rfl, rfl, Nat.le_refl _, fun _ _ => rfl⟩ | exact Below.mono (B := wr.heap.size) ⟨hcur.1, hcur.2, hcur.3, hcur.4, hcur.5⟩ HR.out.1.size) (hbF.mono HW.out)); have HF := Lib.hid (And.intro hbW (And.intro hMF (And.intro RF vF))); clear hbF hbW hMF RF vF hkF hs1 hHeld; go_wp2_with fail
              refine hK.out _ _ (fun _ => by (first | exact hsz | exact Nat.le_refl _ | (have h9 := hs1; simp <;> omega))) (fun hh => ?_)
              have hHeld := hh rfl
              clear hK K
              try simp only [Act.put, List.setIfInBounds_toArray, List.set_cons_zero, List.set_cons_succ]
              refine wpZ_one (i := 6) (oi := { dst := some 36, op := Go.Op.convert 22 9 (Go.Operand.tmp 35), type := 9, pos := "law.go:215", after := #[{ on := 5, ground := Go.Ground.data }], guard := none }) rfl (by kernel_rfl) (fun K hK => ?_)
              have hs1 := hHeld; have hsz := hHeld; (first | (have hcv := convK 106 (by decide) (HKF.out wr.heap.size (Nat.le_refl _) hlt5)) | (have hcv := convN wF 106 106 (by decide)) | (have hcv := convD wr 106 106 (by decide))); go_simp; clear hcv
              refine hK.out _ _ (fun _ => by (first | exact hsz | exact Nat.le_refl _ | (have h9 := hs1; simp <;> omega))) (fun hh => ?_)
              have hHeld := hh rfl
              clear hK K
              try simp only [Act.put, List.setIfInBounds_toArray, List.set_cons_zero, List.set_cons_succ]
              refine wpZ_one (i := 7) (oi := { dst := some 37, op := Go.Op.call { callee := Go.Callee.value (Go.Operand.func 8), args := #[Go.Operand.tmp 30, Go.Operand.tmp 31, Go.Operand.tmp 36], argTypes := #[24, 40, 9] }, type := 27, pos := "law.go:215", after := #[{ on := 0, ground := Go.Ground.data }, { on := 1, ground := Go.Ground.data }, { on := 6, ground := Go.Ground.data }, { on := 1, ground := Go.Ground.chain }], guard := none }) rfl (by kernel_rfl) (fun K hK => ?_)
              go_simp; clear hHeld; refine (mk9 _ _ MF wF _ hp rF HF.out.2.1 HF.out.2.2.1 HF.out.2.2.2 (by first | exact Below.refl _ _ | exact (Below.refl wF.heap.size wF).alloc (Nat.le_refl _) _)).mono ?_; rintro e wM ⟨rfl, hbM, MM, hMM, RM⟩; have hs2 : wF.heap.size ≤ wM.heap.size := Nat.le_trans (by first | exact Nat.le_refl _ | (simp <;> omega)) hbM.size; have hs1 : wr.heap.size ≤ wF.heap.size := (by first | exact hsz | (have h9 := hsz; omega)); have hsz := Nat.le_trans hs1 hs2; have hbX : Below W.heap.size W wM := HF.out.1.trans (Below.trans (by first | exact Below.refl _ _ | exact (Below.refl _ wF).alloc HF.out.1.size _) (hbM.mono HW.out)); have HM := Lib.hid (And.intro hbX (And.intro hMM RM)); clear hbM hMM RM hbX hs2; go_wp2_with fail
              refine hK.out _ _ (fun _ => by (first | exact hsz | exact Nat.le_refl _ | (have h9 := hs1; simp <;> omega))) (fun hh => ?_)
              have hHeld := hh rfl
              clear hK K
              try simp only [Act.put, List.setIfInBounds_toArray, List.set_cons_zero, List.set_cons_succ]
              (refine wpZ_take (i := 8) (oi := { dst := some 29, op := Go.Op.move (Go.Operand.tmp 37), type := 27, pos := "law.go:215", after := #[{ on := 7, ground := Go.Ground.data }], guard := none }) (v := ?_) rfl (by kernel_rfl) (fun _ _ _ h => h) (by assumption) (Or.inl ⟨by rfl, ?_⟩) ?_; rotate_left 1; · ((intro w hSw; (try dsimp only at hSw); go_split_ands; go_simp) <;> (try with_reducible rfl)))
              try simp only [Act.put, List.setIfInBounds_toArray, List.set_cons_zero, List.set_cons_succ]
              (refine wpZ_take (i := 9) (oi := { dst := some 38, op := Go.Op.extract (Go.Operand.tmp 29) 0, type := 3, pos := "law.go:215", after := #[{ on := 8, ground := Go.Ground.data }], guard := none }) (v := ?_) rfl (by kernel_rfl) (fun _ _ _ h => h) (by assumption) (Or.inl ⟨by rfl, ?_⟩) ?_; rotate_left 1; · ((intro w hSw; (try dsimp only at hSw); go_split_ands; go_simp) <;> (try with_reducible rfl)))
              try simp only [Act.put, List.setIfInBounds_toArray, List.set_cons_zero, List.set_cons_succ]
              (refine wpZ_take (i := 10) (oi := { dst := some 39, op := Go.Op.extract (Go.Operand.tmp 29) 1, type := 26, pos := "law.go:215", after := #[{ on := 8, ground := Go.Ground.data }, { on := 11, ground := Go.Ground.gcOnly Go.Departure.lateStores }], guard := none }) (v := ?_) rfl (by kernel_rfl) (fun _ _ _ h => h) (by assumption) (Or.inl ⟨by rfl, ?_⟩) ?_; rotate_left 1; · ((intro w hSw; (try dsimp only at hSw); go_split_ands; go_simp) <;> (try with_reducible rfl)))
              try simp only [Act.put, List.setIfInBounds_toArray, List.set_cons_zero, List.set_cons_succ]
              (refine wpZ_take (i := 11) (oi := { dst := some 8, op := Go.Op.assign (Go.Operand.tmp 38), type := 3, pos := "law.go:215", after := #[{ on := 9, ground := Go.Ground.data }, { on := 7, ground := Go.Ground.chain }, { on := 0, ground := Go.Ground.phase }, { on := 1, ground := Go.Ground.phase }, { on := 2, ground := Go.Ground.phase }, { on := 3, ground := Go.Ground.phase }, { on := 4, ground := Go.Ground.phase }, { on := 5, ground := Go.Ground.phase }, { on := 6, ground := Go.Ground.phase }, { on := 7, ground := Go.Ground.phase }, { on := 8, ground := Go.Ground.phase }, { on := 9, ground := Go.Ground.phase }, { on := 10, ground := Go.Ground.textOnly Go.Departure.lateStores }], guard := none }) (v := ?_) rfl (by kernel_rfl) (fun _ _ _ h => h) (by assumption) (Or.inl ⟨by rfl, ?_⟩) ?_; rotate_left 1; · ((intro w hSw; (try dsimp only at hSw); go_split_ands; go_simp) <;> (try with_reducible rfl)))
              try simp only [Act.put, List.setIfInBounds_toArray, List.set_cons_zero, List.set_cons_succ]
              refine wpZ_one (i := 12) (oi := { dst := some 9, op := Go.Op.assign (Go.Operand.tmp 39), type := 26, pos := "law.go:215", after := #[{ on := 10, ground := Go.Ground.data }, { on := 11, ground := Go.Ground.chain }, { on := 0, ground := Go.Ground.phase }, { on := 1, ground := Go.Ground.phase }, { on := 2, ground := Go.Ground.phase }, { on := 3, ground := Go.Ground.phase }, { on := 4, ground := Go.Ground.phase }, { on := 5, ground := Go.Ground.phase }, { on := 6, ground := Go.Ground.phase }, { on := 7, ground := Go.Ground.phase }, { on := 8, ground := Go.Ground.phase }, { on := 9, ground := Go.Ground.phase }, { on := 10, ground := Go.Ground.phase }, { on := 11, ground := Go.Ground.phase }], guard := none }) rfl (by kernel_rfl) (fun K hK => ?_)
              go_simp
              refine hK.out _ _ (fun h => by simp at h) (fun _ => ?_)
              clear hK K
              try simp only [Act.put, List.setIfInBounds_toArray, List.set_cons_zero, List.set_cons_succ]
              refine wpZ_done (by kernel_rfl) ?_ _
              clear HF HKF; go_wp2; go_roundw; (case rel => (first | exact ⟨10, (by have := HLT.out; omega), (by first | rfl | go_num), HM.out.1, MM, HM.out.2⟩ | ((repeat (apply Exists.intro)); refine And.intro ?_ ?_; rotate_left; (focus rfl); (focus exact ⟨10, (by have := HLT.out; omega), (by first | rfl | go_num), HM.out.1, MM, HM.out.2⟩)))); (case measure => (simp [intOf]; (try (have := HLT.out; omega))))
            ·
              have hs1 := hHeld; have hsz := hHeld; (first | (have hcv := convK 106 (by decide) (HKF.out wr.heap.size (Nat.le_refl _) hlt5)) | (have hcv := convN wF 106 106 (by decide)) | (have hcv := convD wr 106 106 (by decide))); go_simp; clear hcv
              refine hK.out _ _ (fun _ => by (first | exact hsz | exact Nat.le_refl _ | (have h9 := hs1; simp <;> omega))) (fun hh => ?_)
              have hHeld := hh rfl
              clear hK K
              try simp only [Act.put, List.setIfInBounds_toArray, List.set_cons_zero, List.set_cons_succ]
              refine wpZ_one (i := 1) (oi := { dst := some 31, op := Go.Op.call { callee := Go.Callee.value (Go.Operand.func 9), args := #[], argTypes := #[] }, type := 40, pos := "law.go:215", after := #[], guard := none }) rfl (by kernel_rfl) (fun K hK => ?_)
              go_simp; have hs1 := hHeld; refine (fx9 _ _ _ wr _ hp HR.out.2.1 HR.out.2.2 (by first | exact ⟨rfl, rfl, rfl, Nat.le_refl _, fun _ _ => rfl⟩ | exact ⟨hcur.1, hcur.2, hcur.3, hcur.4, hcur.5⟩)).mono ?_; rintro e wF ⟨rF, MF, rfl, hbF, hkF, hMF, RF, vF⟩; have hsz : wr.heap.size ≤ wF.heap.size := Nat.le_trans hs1 hbF.size; have HKF := Lib.hid hkF; have hbW : Below W.heap.size W wF := HR.out.1.trans (Below.trans (by first | exact ⟨rfl, rfl, rfl, Nat.le_refl _, fun _ _ => rfl⟩ | exact Below.mono (B := wr.heap.size) ⟨hcur.1, hcur.2, hcur.3, hcur.4, hcur.5⟩ HR.out.1.size) (hbF.mono HW.out)); have HF := Lib.hid (And.intro hbW (And.intro hMF (And.intro RF vF))); clear hbF hbW hMF RF vF hkF hs1 hHeld; go_wp2_with fail
              refine hK.out _ _ (fun _ => by (first | exact hsz | exact Nat.le_refl _ | (have h9 := hs1; simp <;> omega))) (fun hh => ?_)
              have hHeld := hh rfl
              clear hK K
              try simp only [Act.put, List.setIfInBounds_toArray, List.set_cons_zero, List.set_cons_succ]
              refine wpZ_one (i := 7) (oi := { dst := some 37, op := Go.Op.call { callee := Go.Callee.value (Go.Operand.func 8), args := #[Go.Operand.tmp 30, Go.Operand.tmp 31, Go.Operand.tmp 36], argTypes := #[24, 40, 9] }, type := 27, pos := "law.go:215", after := #[{ on := 0, ground := Go.Ground.data }, { on := 1, ground := Go.Ground.data }, { on := 6, ground := Go.Ground.data }, { on := 1, ground := Go.Ground.chain }], guard := none }) rfl (by kernel_rfl) (fun K hK => ?_)
              go_simp; clear hHeld; refine (mk9 _ _ MF wF _ hp rF HF.out.2.1 HF.out.2.2.1 HF.out.2.2.2 (by first | exact Below.refl _ _ | exact (Below.refl wF.heap.size wF).alloc (Nat.le_refl _) _)).mono ?_; rintro e wM ⟨rfl, hbM, MM, hMM, RM⟩; have hs2 : wF.heap.size ≤ wM.heap.size := Nat.le_trans (by first | exact Nat.le_refl _ | (simp <;> omega)) hbM.size; have hs1 : wr.heap.size ≤ wF.heap.size := (by first | exact hsz | (have h9 := hsz; omega)); have hsz := Nat.le_trans hs1 hs2; have hbX : Below W.heap.size W wM := HF.out.1.trans (Below.trans (by first | exact Below.refl _ _ | exact (Below.refl _ wF).alloc HF.out.1.size _) (hbM.mono HW.out)); have HM := Lib.hid (And.intro hbX (And.intro hMM RM)); clear hbM hMM RM hbX hs2; go_wp2_with fail
              refine hK.out _ _ (fun _ => by (first | exact hsz | exact Nat.le_refl _ | (have h9 := hs1; simp <;> omega))) (fun hh => ?_)
              have hHeld := hh rfl
              clear hK K
              try simp only [Act.put, List.setIfInBounds_toArray, List.set_cons_zero, List.set_cons_succ]
              (refine wpZ_take (i := 8) (oi := { dst := some 29, op := Go.Op.move (Go.Operand.tmp 37), type := 27, pos := "law.go:215", after := #[{ on := 7, ground := Go.Ground.data }], guard := none }) (v := ?_) rfl (by kernel_rfl) (fun _ _ _ h => h) (by assumption) (Or.inl ⟨by rfl, ?_⟩) ?_; rotate_left 1; · ((intro w hSw; (try dsimp only at hSw); go_split_ands; go_simp) <;> (try with_reducible rfl)))
              try simp only [Act.put, List.setIfInBounds_toArray, List.set_cons_zero, List.set_cons_succ]
              (refine wpZ_take (i := 9) (oi := { dst := some 38, op := Go.Op.extract (Go.Operand.tmp 29) 0, type := 3, pos := "law.go:215", after := #[{ on := 8, ground := Go.Ground.data }], guard := none }) (v := ?_) rfl (by kernel_rfl) (fun _ _ _ h => h) (by assumption) (Or.inl ⟨by rfl, ?_⟩) ?_; rotate_left 1; · ((intro w hSw; (try dsimp only at hSw); go_split_ands; go_simp) <;> (try with_reducible rfl)))
              try simp only [Act.put, List.setIfInBounds_toArray, List.set_cons_zero, List.set_cons_succ]
              (refine wpZ_take (i := 10) (oi := { dst := some 39, op := Go.Op.extract (Go.Operand.tmp 29) 1, type := 26, pos := "law.go:215", after := #[{ on := 8, ground := Go.Ground.data }, { on := 11, ground := Go.Ground.gcOnly Go.Departure.lateStores }], guard := none }) (v := ?_) rfl (by kernel_rfl) (fun _ _ _ h => h) (by assumption) (Or.inl ⟨by rfl, ?_⟩) ?_; rotate_left 1; · ((intro w hSw; (try dsimp only at hSw); go_split_ands; go_simp) <;> (try with_reducible rfl)))
              try simp only [Act.put, List.setIfInBounds_toArray, List.set_cons_zero, List.set_cons_succ]
              (refine wpZ_take (i := 11) (oi := { dst := some 8, op := Go.Op.assign (Go.Operand.tmp 38), type := 3, pos := "law.go:215", after := #[{ on := 9, ground := Go.Ground.data }, { on := 7, ground := Go.Ground.chain }, { on := 0, ground := Go.Ground.phase }, { on := 1, ground := Go.Ground.phase }, { on := 2, ground := Go.Ground.phase }, { on := 3, ground := Go.Ground.phase }, { on := 4, ground := Go.Ground.phase }, { on := 5, ground := Go.Ground.phase }, { on := 6, ground := Go.Ground.phase }, { on := 7, ground := Go.Ground.phase }, { on := 8, ground := Go.Ground.phase }, { on := 9, ground := Go.Ground.phase }, { on := 10, ground := Go.Ground.textOnly Go.Departure.lateStores }], guard := none }) (v := ?_) rfl (by kernel_rfl) (fun _ _ _ h => h) (by assumption) (Or.inl ⟨by rfl, ?_⟩) ?_; rotate_left 1; · ((intro w hSw; (try dsimp only at hSw); go_split_ands; go_simp) <;> (try with_reducible rfl)))
              try simp only [Act.put, List.setIfInBounds_toArray, List.set_cons_zero, List.set_cons_succ]
              refine wpZ_one (i := 12) (oi := { dst := some 9, op := Go.Op.assign (Go.Operand.tmp 39), type := 26, pos := "law.go:215", after := #[{ on := 10, ground := Go.Ground.data }, { on := 11, ground := Go.Ground.chain }, { on := 0, ground := Go.Ground.phase }, { on := 1, ground := Go.Ground.phase }, { on := 2, ground := Go.Ground.phase }, { on := 3, ground := Go.Ground.phase }, { on := 4, ground := Go.Ground.phase }, { on := 5, ground := Go.Ground.phase }, { on := 6, ground := Go.Ground.phase }, { on := 7, ground := Go.Ground.phase }, { on := 8, ground := Go.Ground.phase }, { on := 9, ground := Go.Ground.phase }, { on := 10, ground := Go.Ground.phase }, { on := 11, ground := Go.Ground.phase }], guard := none }) rfl (by kernel_rfl) (fun K hK => ?_)
              go_simp
              refine hK.out _ _ (fun h => by simp at h) (fun _ => ?_)
              clear hK K
              try simp only [Act.put, List.setIfInBounds_toArray, List.set_cons_zero, List.set_cons_succ]
              refine wpZ_done (by kernel_rfl) ?_ _
              clear HF HKF; go_wp2; go_roundw; (case rel => (first | exact ⟨10, (by have := HLT.out; omega), (by first | rfl | go_num), HM.out.1, MM, HM.out.2⟩ | ((repeat (apply Exists.intro)); refine And.intro ?_ ?_; rotate_left; (focus rfl); (focus exact ⟨10, (by have := HLT.out; omega), (by first | rfl | go_num), HM.out.1, MM, HM.out.2⟩)))); (case measure => (simp [intOf]; (try (have := HLT.out; omega))))
      · obtain rfl : j = kk := by omega
        have d0 : decide ((j : Int) < (j : Int)) = false := decide_eq_false (by omega)
        have d0n : decide (j < j) = false := decide_eq_false (by omega)
        obtain ⟨m, hmd⟩ : ∃ m, m = fixT j := ⟨_, rfl⟩
        have hm8 : m ≤ 8 := by rw [hmd]; unfold fixT; omega
        have hmin : (if (8 : Int) < (j : Int) then 8 else (j : Int)) = (m : Int) := by rw [hmd]; unfold fixT; split <;> omega
        have hmin2 : (if 8 < j then (8 : Int) else (j : Int)) = (m : Int) := by rw [hmd]; unfold fixT; split <;> omega
        have HMD := Lib.hid (And.intro hmd hm8)
        clear hmd hlt hj hm8
        go_wp2_with fail
        have HDD := Lib.hid HR.out.2.2.size
        go_loopw [12] (fun i w2' => ∃ t : Nat, t ≤ len ∧ i = .int .i64 t ∧ Below W.heap.size W w2' ∧ (∃ Mc, Mc 64 = some hp ∧ Rel e0 (none0 w1.heap.size (fun k => w1.heap[k]?)) Mc (TC m) w2') ∧
          (1 ≤ m → ∃ ss : Nat → Nat, Sg w1.heap.size (fun k => w1.heap[k]?) m wr.heap.size hp w2' ss ∧ ∀ y, y < 8 → w2'.cell? ⟨wr.heap.size, y, none⟩ = some (.bool (decide (ss y = 2))) ∧ w2'.frozen? ⟨wr.heap.size, y, none⟩ = false)) (fun i _ => len - (intOf i).toNat)
        case atStart =>
          obtain ⟨hbr, hM, R⟩ := HR.out
          have hbl := push_below R.size (.cells #[.bool false, .bool false, .bool false, .bool false, .bool false, .bool false, .bool false, .bool false] 50)
          refine ⟨0, Nat.zero_le _, rfl, hbr.trans (hbl.mono HW.out), ?_, fun h1 => ⟨fun _ => 0, ?_, fun y hy => ?_⟩⟩
          · by_cases h1 : 1 ≤ m
            · exact Sg.com (Sg.start h1 HMD.out.2 (by rw [HMD.out.1]; exact R) hM _) h1 HMD.out.2
            · refine ⟨M, hM, ?_⟩
              have e : m = 0 := by omega
              have R0 := R.below ((Below.refl wr.heap.size wr).alloc (Nat.le_refl _) (.cells #[.bool false, .bool false, .bool false, .bool false, .bool false, .bool false, .bool false, .bool false] 50))
              rw [← HMD.out.1, e] at R0
              rw [e]
              exact R0
          · exact Sg.start h1 HMD.out.2 (by rw [HMD.out.1]; exact R) hM _
          · exact arr8 wr 50 y hy
        case round =>
          obtain ⟨t, ht, rfl, hb2, hC, hS⟩ := hrel
          have HC := Lib.hid (And.intro ht (And.intro hb2 (And.intro hC hS)))
          by_cases hgo : t < len ∧ 1 ≤ m
          · obtain ⟨ss, hSg, hcl⟩ := hS hgo.2
            obtain ⟨xa, rfl, hcx, hwf⟩ := HG.out t hgo.1
            have cx := hcx _ hb2
            have hz := u8_wf hwf
            generalize zs.getD t 0 = z at cx hz
            obtain ⟨x, hx⟩ : ∃ x : Nat, z % (m : Int) = (x : Int) := ⟨(z % (m : Int)).toNat, by have := Int.emod_nonneg z (show (m : Int) ≠ 0 by omega); omega⟩
            have hxm : x < m := by have := Int.emod_lt_of_pos z (show (0 : Int) < (m : Int) by omega); omega
            have HX := Lib.hid (And.intro hgo (And.intro hSg (And.intro hcl hxm)))
            have e0' : decide ((t : Int) < (len : Int)) = true := decide_eq_true (by omega)
            have e0n : decide (t < len) = true := decide_eq_true (by omega)
            have e1' : decide ((0 : Int) < (m : Int)) = true := decide_eq_true (by omega)
            have e1n : decide (0 < m) = true := decide_eq_true (by omega)
            have hm0 : ((m : Int) == 0) = false := by rw [beq_eq_false_iff_ne]; omega
            have hwx : IntKind.i64.wrap (x : Int) = (x : Int) := IntWalk.i64_in _ (by have := HMD.out.2; omega)
            have hxt : Int.tmod z (m : Int) = (x : Int) := by rw [Int.tmod_eq_emod_of_nonneg hz.1]; exact hx
            have hi1 : IntKind.i64.wrap ((t : Int) + 1) = (t : Int) + 1 := IntWalk.i64_in _ (by omega)
            have hmn : ¬ m = 0 := by omega
            have htl : t < len := hgo.1
            clear hcx hwf hSg hcl hb2 hC hS ht hxm hgo
            go_wp2_with fail
            obtain ⟨hgo, hSg, hcl, hxm⟩ := HX.out
            refine (Sg.pick hSg hgo.2 HMD.out.2 hxm).mono ?_
            rintro e w' ⟨r, rfl, hb', hD', hS', hres⟩
            have hx8 : x < 8 := by have := HMD.out.2; omega
            have cd0 := keepC2 hD' (hcl x hx8).1
            have fz := frozenC hD' (hcl x hx8).2
            have hbw := HC.out.2.1.trans (hb'.mono HW.out)
            rcases hres with ⟨hs1, b, o, c, b2, o2, c2, hc1, hc2, rfl, d1, d2, d3⟩ | ⟨hs1, rfl⟩
            · have cd : w'.cell? ⟨_, x, none⟩ = some (.bool false) := cd0.trans (by rw [hs1]; rfl)
              have hx8i : (x : Int) < 8 := by omega
              have ex8 : decide ((x : Int) < 8) = true := decide_eq_true hx8i
              have ex8n : decide (x < 8) = true := decide_eq_true hx8
              have hux : IntKind.u64.wrap (x : Int) = (x : Int) := IntWalk.u64_in _ (by omega)
              have h10 : IntKind.i64.wrap (10 * (x : Int)) = 10 * (x : Int) := IntWalk.i64_in _ (by omega)
              have hu10 : IntKind.u64.wrap (10 * (x : Int)) = 10 * (x : Int) := IntWalk.u64_in _ (by omega)
              have c10 : ((10 * x : Nat) : Int) = 10 * (x : Int) := by omega
              rw [c10] at d3
              have hc1' : decide ((0 : Int) < 1) = true := by decide
              have HN := Lib.hid (And.intro hbw (And.intro hS' (And.intro hs1 (And.intro hD' hb'))))
              clear hgo hSg hcl hxm hb' hD' hS' hs1 hbw cd0 c10 cx hz
              go_wp2
              go_roundw
              case rel =>
                obtain ⟨hbw, hS', hs1, hD', hb'⟩ := HN.out
                obtain ⟨hgo, hSg, hcl, hxm⟩ := HX.out
                have hS2 := Sg.setD (w' := w'.setCell ⟨_, x, none⟩ (.bool true)) hS' HDD.out (fun k hk => Below.heap_setCell _ _ _ k hk) (by simp [World.setCell])
                refine ⟨t + 1, hgo.1, by go_num, hbw.setCell (Nat.le_trans HW.out HDD.out) _, Sg.com hS2 hgo.2 HMD.out.2, fun _ => ⟨_, hS2, fun y hy => ⟨?_, ?_⟩⟩⟩
                · by_cases e : y = x
                  · subst e
                    simp only [if_true]
                    rw [hs1]
                    exact World.cell?_setCell_same _ _ _ cd
                  · simp only [if_neg e]
                    rw [World.cell?_setCell_other _ _ _ _ (by intro h; injection h with _ h2 _; exact e h2.symm)]
                    exact keepC2 hD' (hcl y hy).1
                · rw [World.frozen?_setCell]
                  exact frozenC hD' (hcl y hy).2
              case measure => (simp [intOf]; try (have := HX.out.1; omega))
            · have hi1 : IntKind.i64.wrap ((t : Int) + 1) = (t : Int) + 1 := hi1
              have HN := Lib.hid (And.intro hbw (And.intro hS' (And.intro hs1 (And.intro hD' hb'))))
              clear hgo hSg hcl hxm hb' hD' hS' hs1 hbw cd0 fz cx hz
              go_wp2
              go_roundw
              case rel =>
                obtain ⟨hbw, hS', hs1, hD', hb'⟩ := HN.out
                obtain ⟨hgo, hSg, hcl, hxm⟩ := HX.out
                refine ⟨t + 1, hgo.1, by go_num, hbw, Sg.com hS' hgo.2 HMD.out.2, fun _ => ⟨_, hS', fun y hy => ⟨?_, ?_⟩⟩⟩
                · rw [keepC2 hD' (hcl y hy).1]
                  by_cases e : y = x
                  · subst e
                    simp only [if_true]
                    rw [nx_two hs1 (Sg.le2 hSg hxm)]
                  · simp only [if_neg e]
                · exact frozenC hD' (hcl y hy).2
              case measure => (simp [intOf]; try (have := HX.out.1; omega))
          · have hm01 : ¬ t < len ∨ m = 0 := by omega
            obtain ⟨Mc, hMc, RC⟩ := hC
            clear hS
            rcases hm01 with hge | rfl
            · obtain rfl : t = len := by omega
              have e0' : decide ((t : Int) < (t : Int)) = false := decide_eq_false (by omega)
              have e0n : decide (t < t) = false := decide_eq_false (by omega)
              clear hb2 ht hgo hge
              go_wp2_with fail
              refine (rm_all m HMD.out.2 _ Mc _ hp hMc RC).mono ?_
              rintro e w' ⟨rfl, hb'⟩
              have HN := Lib.hid (HC.out.2.1.trans (hb'.mono HW.out))
              clear hb' hMc RC
              go_wp2
              go_ret
              exact ⟨rfl, HN.out⟩
            · clear hb2 hgo
              by_cases hlt : t < len
              · have e0' : decide ((t : Int) < (len : Int)) = true := decide_eq_true (by omega)
                have e0n : decide (t < len) = true := decide_eq_true (by omega)
                clear ht hlt
                go_wp2_with fail
                refine (rm_all 0 HMD.out.2 _ Mc _ hp hMc RC).mono ?_
                rintro e w' ⟨rfl, hb'⟩
                have HN := Lib.hid (HC.out.2.1.trans (hb'.mono HW.out))
                clear hb' hMc RC
                go_wp2
                go_ret
                exact ⟨rfl, HN.out⟩
              · obtain rfl : t = len := by omega
                have e0' : decide ((t : Int) < (t : Int)) = false := decide_eq_false (by omega)
                have e0n : decide (t < t) = false := decide_eq_false (by omega)
                clear ht hlt
                go_wp2_with fail
                refine (rm_all 0 HMD.out.2 _ Mc _ hp hMc RC).mono ?_
                rintro e w' ⟨rfl, hb'⟩
                have HN := Lib.hid (HC.out.2.1.trans (hb'.mono HW.out))
                clear hb' hMc RC
                go_wp2
                go_ret
                exact ⟨rfl, HN.out⟩
  · have c40 : decide ((40 : Int) < (len : Int)) = true := decide_eq_true (by omega)
    have c40n : decide (40 < len) = true := decide_eq_true (by omega)
    clear hnn
    go_enter Tryz.func4, Tryz.ntmps4
    go_wp2_with fail
    refine (begun_c _).mono ?_
    rintro e w1 ⟨rfl, hb1⟩
    go_wp2
    go_ret
    exact ⟨rfl, hb1⟩
end Go.Vm.Hr
