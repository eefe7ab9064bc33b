-- Written by the kit's print.py over a stubbed print (numprint.py).
import Derived.Test.YtpbnbgjclalpeaaDoorPNx0
import Derived.Test.YtpbnbgjclalpeaaDoorPNx4
import Derived.Test.YtpbnbgjclalpeaaDoorPNx5
namespace Go.Proofs.YtpbnbgjclalpeaaDoor.PN
open Go.RowKit Go.Proofs.YtpbnbgjclalpeaaDoorW.PrintWords Go.Proofs.YtpbnbgjclalpeaaDoorW.PrintLast Go.Proofs.YtpbnbgjclalpeaaDoorW.PrintMore
attribute [local go_sem] max2_int min2_int max_two min_two max_three min_three max_four min_four   -- for this text's walks alone
set_option linter.unusedVariables false
set_option linter.unusedSimpArgs false

/-! ### cloakroomlaw13_NumSums: function 5 -/
def cloakroomlaw13_NumSums.l0 : Nat → Int → Int → List Int → List Int → Int → Option (Bool)
  | 0, _, _, _, _, _ => none
  | k + 1, x0, x1, x7, x8, x9 => if x9 < (x8.length : Int) then (if 0 ≤ x9 then ((num_Two.f k (rd x8 x9) x0 x1).bind fun bt182 => (if bt182.2 = 0 then (if x9 < (x7.length : Int) then (if bt182.1 = (rd x7 x9) then (cloakroomlaw13_NumSums.l0 k x0 x1 x7 x8 (wrap64 (x9 + 1))) else (some false)) else (none)) else (some false))) else (none)) else (some true)
def cloakroomlaw13_NumSums.f (k : Nat) (a0 : Int) (a1 : Int) : Option (Bool) := (cloakroomlaw13_begun.f k).bind fun t174 => (if t174 = true then (cloakroomlaw13_NumSums.l0 k a0 a1 (([(((a0) % 4294967296) + ((a1) % 4294967296)) % 4294967296, (((a0) % 4294967296) - ((a1) % 4294967296)) % 4294967296, (((a0) % 4294967296) * ((a1) % 4294967296)) % 4294967296, IntKind.u64.wrap (a0 + a1), IntKind.u64.wrap (a0 - a1), IntKind.u64.wrap (a0 * a1), IntKind.u64.wrap (Go.bits .and .u32 ((a0) % 4294967296) ((a1) % 4294967296)), IntKind.u64.wrap (Go.bits .or .u32 ((a0) % 4294967296) ((a1) % 4294967296)), IntKind.u64.wrap (Go.bits .xor .u32 ((a0) % 4294967296) ((a1) % 4294967296)), Go.bits .and .u64 a0 a1, Go.bits .or .u64 a0 a1, Go.bits .xor .u64 a0 a1] : List Int)) (([106, 107, 108, 124, 125, 126, 113, 114, 115, 131, 132, 133] : List Int)) 0) else (some false))
theorem cloakroomlaw13_NumSums.mono_l : ∀ k, (∀ y0 y1 y2 y3 y4, LeO (cloakroomlaw13_NumSums.l0 k y0 y1 y2 y3 y4) (cloakroomlaw13_NumSums.l0 (k + 1) y0 y1 y2 y3 y4))
  | 0 => fun _ _ _ _ _ r h => by simp [cloakroomlaw13_NumSums.l0] at h
  | k + 1 => by
    have ih0 := cloakroomlaw13_NumSums.mono_l k
    · intro y0 y1 y2 y3 y4
      unfold cloakroomlaw13_NumSums.l0
      repeat' first
      | (with_reducible exact ih0 _ _ _ _ _)
      | (with_reducible exact cloakroomlaw13_begun.mono _)
      | (with_reducible exact num_Two.mono _ _ _ _)
      | (with_reducible exact LeO.refl _)
      | (with_reducible exact LeO.none _)
      | (with_reducible refine LeO.ite ?_ ?_)
      | (with_reducible refine LeO.bind ?_ (fun _ => ?_))
      | exact ih0 _ _ _ _ _
      | exact cloakroomlaw13_begun.mono _
      | exact num_Two.mono _ _ _ _
      | exact LeO.none _
      | refine LeO.ite ?_ ?_
      | refine LeO.bind ?_ (fun _ => ?_)
theorem cloakroomlaw13_NumSums.mono : ∀ a0 a1 k, LeO (cloakroomlaw13_NumSums.f k a0 a1) (cloakroomlaw13_NumSums.f (k + 1) a0 a1) := by
  intro a0 a1 k
  have ih0 := cloakroomlaw13_NumSums.mono_l k
  unfold cloakroomlaw13_NumSums.f
  repeat' first
      | (with_reducible exact ih0 _ _ _ _ _)
      | (with_reducible exact cloakroomlaw13_begun.mono _)
      | (with_reducible exact num_Two.mono _ _ _ _)
      | (with_reducible exact LeO.refl _)
      | (with_reducible exact LeO.none _)
      | (with_reducible refine LeO.ite ?_ ?_)
      | (with_reducible refine LeO.bind ?_ (fun _ => ?_))
      | exact ih0 _ _ _ _ _
      | exact cloakroomlaw13_begun.mono _
      | exact num_Two.mono _ _ _ _
      | exact LeO.none _
      | refine LeO.ite ?_ ?_
      | refine LeO.bind ?_ (fun _ => ?_)
set_option maxHeartbeats 8000000 in
set_option maxRecDepth 100000 in
theorem cloakroomlaw13_NumSums.calls (k : Nat) (a0 : Int) (a1 : Int) (r : Bool) (w : World) (h : cloakroomlaw13_NumSums.f k a0 a1 = some r) :
    Calls Tryd.prog 5 #[.int .u64 a0, .int .u64 a1] w fun e w' => e = .returned (.bool r) ∧ Below w.heap.size w w' := by
  have HB := Aside0.mk (Below.refl w.heap.size w)
  have H : ((cloakroomlaw13_begun.f k).bind fun t174 => (if t174 = true then (cloakroomlaw13_NumSums.l0 k a0 a1 (([(((a0) % 4294967296) + ((a1) % 4294967296)) % 4294967296, (((a0) % 4294967296) - ((a1) % 4294967296)) % 4294967296, (((a0) % 4294967296) * ((a1) % 4294967296)) % 4294967296, IntKind.u64.wrap (a0 + a1), IntKind.u64.wrap (a0 - a1), IntKind.u64.wrap (a0 * a1), IntKind.u64.wrap (Go.bits .and .u32 ((a0) % 4294967296) ((a1) % 4294967296)), IntKind.u64.wrap (Go.bits .or .u32 ((a0) % 4294967296) ((a1) % 4294967296)), IntKind.u64.wrap (Go.bits .xor .u32 ((a0) % 4294967296) ((a1) % 4294967296)), Go.bits .and .u64 a0 a1, Go.bits .or .u64 a0 a1, Go.bits .xor .u64 a0 a1] : List Int)) (([106, 107, 108, 124, 125, 126, 113, 114, 115, 131, 132, 133] : List Int)) 0) else (some false))) = some r := h
  clear h
  replace H := Option.bind_eq_some_iff.mp H
  obtain ⟨t174, A30, H⟩ := H
  replace H : (if t174 = true then (cloakroomlaw13_NumSums.l0 k a0 a1 (([(((a0) % 4294967296) + ((a1) % 4294967296)) % 4294967296, (((a0) % 4294967296) - ((a1) % 4294967296)) % 4294967296, (((a0) % 4294967296) * ((a1) % 4294967296)) % 4294967296, IntKind.u64.wrap (a0 + a1), IntKind.u64.wrap (a0 - a1), IntKind.u64.wrap (a0 * a1), IntKind.u64.wrap (Go.bits .and .u32 ((a0) % 4294967296) ((a1) % 4294967296)), IntKind.u64.wrap (Go.bits .or .u32 ((a0) % 4294967296) ((a1) % 4294967296)), IntKind.u64.wrap (Go.bits .xor .u32 ((a0) % 4294967296) ((a1) % 4294967296)), Go.bits .and .u64 a0 a1, Go.bits .or .u64 a0 a1, Go.bits .xor .u64 a0 a1] : List Int)) (([106, 107, 108, 124, 125, 126, 113, 114, 115, 131, 132, 133] : List Int)) 0) else (some false)) = some r := H
  have A3 := Aside0.mk A30
  clear A30
  by_cases c4 : t174 = true
  · subst c4
    have H1 : (cloakroomlaw13_NumSums.l0 k a0 a1 (([(((a0) % 4294967296) + ((a1) % 4294967296)) % 4294967296, (((a0) % 4294967296) - ((a1) % 4294967296)) % 4294967296, (((a0) % 4294967296) * ((a1) % 4294967296)) % 4294967296, IntKind.u64.wrap (a0 + a1), IntKind.u64.wrap (a0 - a1), IntKind.u64.wrap (a0 * a1), IntKind.u64.wrap (Go.bits .and .u32 ((a0) % 4294967296) ((a1) % 4294967296)), IntKind.u64.wrap (Go.bits .or .u32 ((a0) % 4294967296) ((a1) % 4294967296)), IntKind.u64.wrap (Go.bits .xor .u32 ((a0) % 4294967296) ((a1) % 4294967296)), Go.bits .and .u64 a0 a1, Go.bits .or .u64 a0 a1, Go.bits .xor .u64 a0 a1] : List Int)) (([106, 107, 108, 124, 125, 126, 113, 114, 115, 131, 132, 133] : List Int)) 0) = some r := by rw [if_pos rfl] at H; exact H
    clear H
    have H := H1
    clear H1
    obtain ⟨y175, hy175⟩ : ∃ y_ : List Int, y_ = (([(((a0) % 4294967296) + ((a1) % 4294967296)) % 4294967296, (((a0) % 4294967296) - ((a1) % 4294967296)) % 4294967296, (((a0) % 4294967296) * ((a1) % 4294967296)) % 4294967296, IntKind.u64.wrap (a0 + a1), IntKind.u64.wrap (a0 - a1), IntKind.u64.wrap (a0 * a1), IntKind.u64.wrap (Go.bits .and .u32 ((a0) % 4294967296) ((a1) % 4294967296)), IntKind.u64.wrap (Go.bits .or .u32 ((a0) % 4294967296) ((a1) % 4294967296)), IntKind.u64.wrap (Go.bits .xor .u32 ((a0) % 4294967296) ((a1) % 4294967296)), Go.bits .and .u64 a0 a1, Go.bits .or .u64 a0 a1, Go.bits .xor .u64 a0 a1] : List Int)) := ⟨_, rfl⟩
    replace H : (cloakroomlaw13_NumSums.l0 k a0 a1 y175 (([106, 107, 108, 124, 125, 126, 113, 114, 115, 131, 132, 133] : List Int)) 0) = some r := by first | (rw [hy175]; with_reducible exact H) | (have H2_ := (Option.bind_some _ _).symm.trans H; rw [hy175]; with_reducible exact H2_) | (have H2_ := (Option.bind_some _ _).symm.trans H; with_reducible exact H2_) | with_reducible exact H | (rw [hy175]; exact H) | exact H
    have Ny175 := Aside0.mk hy175
    clear hy175
    obtain ⟨y178, hy178⟩ : ∃ y_ : List Int, y_ = (([106, 107, 108, 124, 125, 126, 113, 114, 115, 131, 132, 133] : List Int)) := ⟨_, rfl⟩
    replace H : (cloakroomlaw13_NumSums.l0 k a0 a1 y175 y178 0) = some r := by first | (rw [hy178]; with_reducible exact H) | (have H2_ := (Option.bind_some _ _).symm.trans H; rw [hy178]; with_reducible exact H2_) | (have H2_ := (Option.bind_some _ _).symm.trans H; with_reducible exact H2_) | with_reducible exact H | (rw [hy178]; exact H) | exact H
    have Ny178 := Aside0.mk hy178
    clear hy178
    have H' := Aside0.mk H
    clear H
    go_enter Tryd.func5, Tryd.ntmps5
    go_wp2_with (first | ((with_reducible refine gate_callee (f := 12) rfl ?_); refine goesL_ (some 12) rfl rfl Tryd.func12 (by kernel_rfl) rfl #[] rfl (by (try simp only [List.map_toArray, List.map_cons, List.map_nil]); first | done | rfl | (simp only [List.length_drop, List.length_take]; rfl)) ?_; (with_reducible refine (cloakroomlaw13_begun.calls k  true _ A3.out).mono ?_); rintro e w5 ⟨rfl, hb⟩; refine ⟨_, rfl, ?_⟩; have n0_ := Aside0.mk (below_step (by repeat (first | (with_reducible first | exact HB.out | apply below_alloc | apply pw_below_drewN | apply below_drew1) | exact HB.out)) hb); clear HB; have HB := n0_; clear n0_; (try clear hb); (try clear hb2); (try clear hk); (try clear hi)) | ((with_reducible refine gate_dst (N := 60) rfl ?_); refine Kd.R_lit (Kd.int .u64) _ 22 ?hg (N := 60) ?hd (xs := ([(((a0) % 4294967296) + ((a1) % 4294967296)) % 4294967296, (((a0) % 4294967296) - ((a1) % 4294967296)) % 4294967296, (((a0) % 4294967296) * ((a1) % 4294967296)) % 4294967296, IntKind.u64.wrap (a0 + a1), IntKind.u64.wrap (a0 - a1), IntKind.u64.wrap (a0 * a1), IntKind.u64.wrap (Go.bits .and .u32 ((a0) % 4294967296) ((a1) % 4294967296)), IntKind.u64.wrap (Go.bits .or .u32 ((a0) % 4294967296) ((a1) % 4294967296)), IntKind.u64.wrap (Go.bits .xor .u32 ((a0) % 4294967296) ((a1) % 4294967296)), Go.bits .and .u64 a0 a1, Go.bits .or .u64 a0 a1, Go.bits .xor .u64 a0 a1] : List Int)) (inner := [.int .u64 ((((a0) % 4294967296) + ((a1) % 4294967296)) % 4294967296), .int .u64 ((((a0) % 4294967296) - ((a1) % 4294967296)) % 4294967296), .int .u64 ((((a0) % 4294967296) * ((a1) % 4294967296)) % 4294967296), .int .u64 (IntKind.u64.wrap (a0 + a1)), .int .u64 (IntKind.u64.wrap (a0 - a1)), .int .u64 (IntKind.u64.wrap (a0 * a1)), .int .u64 (IntKind.u64.wrap (Go.bits .and .u32 ((a0) % 4294967296) ((a1) % 4294967296))), .int .u64 (IntKind.u64.wrap (Go.bits .or .u32 ((a0) % 4294967296) ((a1) % 4294967296))), .int .u64 (IntKind.u64.wrap (Go.bits .xor .u32 ((a0) % 4294967296) ((a1) % 4294967296))), .int .u64 (Go.bits .and .u64 a0 a1), .int .u64 (Go.bits .or .u64 a0 a1), .int .u64 (Go.bits .xor .u64 a0 a1)]) (ok := fun _ => True) (okp := fun _ => True) ?hr ?hp (fun _ hk => hk) trivial (Below.refl _ _) (Nat.le_refl _) (by simp) ?_; (case hd => rfl); (case hg => rfl); (case hr => first | (go_simp; done) | (go_simp; rfl)); (case hp => exact (Reps.one (show Kd.M (Kd.int .u64) _ _ _ ((((a0) % 4294967296) + ((a1) % 4294967296)) % 4294967296) [.int .u64 ((((a0) % 4294967296) + ((a1) % 4294967296)) % 4294967296)] from rfl) (Reps.one (show Kd.M (Kd.int .u64) _ _ _ ((((a0) % 4294967296) - ((a1) % 4294967296)) % 4294967296) [.int .u64 ((((a0) % 4294967296) - ((a1) % 4294967296)) % 4294967296)] from rfl) (Reps.one (show Kd.M (Kd.int .u64) _ _ _ ((((a0) % 4294967296) * ((a1) % 4294967296)) % 4294967296) [.int .u64 ((((a0) % 4294967296) * ((a1) % 4294967296)) % 4294967296)] from rfl) (Reps.one (show Kd.M (Kd.int .u64) _ _ _ (IntKind.u64.wrap (a0 + a1)) [.int .u64 (IntKind.u64.wrap (a0 + a1))] from rfl) (Reps.one (show Kd.M (Kd.int .u64) _ _ _ (IntKind.u64.wrap (a0 - a1)) [.int .u64 (IntKind.u64.wrap (a0 - a1))] from rfl) (Reps.one (show Kd.M (Kd.int .u64) _ _ _ (IntKind.u64.wrap (a0 * a1)) [.int .u64 (IntKind.u64.wrap (a0 * a1))] from rfl) (Reps.one (show Kd.M (Kd.int .u64) _ _ _ (IntKind.u64.wrap (Go.bits .and .u32 ((a0) % 4294967296) ((a1) % 4294967296))) [.int .u64 (IntKind.u64.wrap (Go.bits .and .u32 ((a0) % 4294967296) ((a1) % 4294967296)))] from rfl) (Reps.one (show Kd.M (Kd.int .u64) _ _ _ (IntKind.u64.wrap (Go.bits .or .u32 ((a0) % 4294967296) ((a1) % 4294967296))) [.int .u64 (IntKind.u64.wrap (Go.bits .or .u32 ((a0) % 4294967296) ((a1) % 4294967296)))] from rfl) (Reps.one (show Kd.M (Kd.int .u64) _ _ _ (IntKind.u64.wrap (Go.bits .xor .u32 ((a0) % 4294967296) ((a1) % 4294967296))) [.int .u64 (IntKind.u64.wrap (Go.bits .xor .u32 ((a0) % 4294967296) ((a1) % 4294967296)))] from rfl) (Reps.one (show Kd.M (Kd.int .u64) _ _ _ (Go.bits .and .u64 a0 a1) [.int .u64 (Go.bits .and .u64 a0 a1)] from rfl) (Reps.one (show Kd.M (Kd.int .u64) _ _ _ (Go.bits .or .u64 a0 a1) [.int .u64 (Go.bits .or .u64 a0 a1)] from rfl) (Reps.one (show Kd.M (Kd.int .u64) _ _ _ (Go.bits .xor .u64 a0 a1) [.int .u64 (Go.bits .xor .u64 a0 a1)] from rfl) (Reps.none _ _)))))))))))))); intro v176 w6 ho7 hb hg_ hnew_; clear hg_ hnew_; (first | rw [← Ny175.out] at ho7 | (simp only [Int.reduceToNat] at ho7; rw [← Ny175.out] at ho7)); have n0_ := Aside0.mk (Kd.R_lower ho7 (below_size (by repeat (first | (with_reducible first | exact HB.out | apply below_alloc | apply pw_below_drewN | apply below_drew1) | exact HB.out)))); have n1_ := Aside0.mk (below_step (by repeat (first | (with_reducible first | exact HB.out | apply below_alloc | apply pw_below_drewN | apply below_drew1) | exact HB.out)) hb); clear HB; have HO177 := n0_; have HB := n1_; clear n0_ n1_; clear hb ho7) | ((with_reducible refine gate_dst (N := 61) rfl ?_); refine Kd.R_lit (Kd.int .i64) _ 3 ?hg (N := 61) ?hd (xs := ([106, 107, 108, 124, 125, 126, 113, 114, 115, 131, 132, 133] : List Int)) (inner := [.int .i64 106, .int .i64 107, .int .i64 108, .int .i64 124, .int .i64 125, .int .i64 126, .int .i64 113, .int .i64 114, .int .i64 115, .int .i64 131, .int .i64 132, .int .i64 133]) (ok := fun _ => True) (okp := fun _ => True) ?hr ?hp (fun _ hk => hk) trivial (Below.refl _ _) (Nat.le_refl _) (by simp) ?_; (case hd => rfl); (case hg => rfl); (case hr => first | (go_simp; done) | (go_simp; rfl)); (case hp => exact (Reps.one (show Kd.M (Kd.int .i64) _ _ _ 106 [.int .i64 106] from rfl) (Reps.one (show Kd.M (Kd.int .i64) _ _ _ 107 [.int .i64 107] from rfl) (Reps.one (show Kd.M (Kd.int .i64) _ _ _ 108 [.int .i64 108] from rfl) (Reps.one (show Kd.M (Kd.int .i64) _ _ _ 124 [.int .i64 124] from rfl) (Reps.one (show Kd.M (Kd.int .i64) _ _ _ 125 [.int .i64 125] from rfl) (Reps.one (show Kd.M (Kd.int .i64) _ _ _ 126 [.int .i64 126] from rfl) (Reps.one (show Kd.M (Kd.int .i64) _ _ _ 113 [.int .i64 113] from rfl) (Reps.one (show Kd.M (Kd.int .i64) _ _ _ 114 [.int .i64 114] from rfl) (Reps.one (show Kd.M (Kd.int .i64) _ _ _ 115 [.int .i64 115] from rfl) (Reps.one (show Kd.M (Kd.int .i64) _ _ _ 131 [.int .i64 131] from rfl) (Reps.one (show Kd.M (Kd.int .i64) _ _ _ 132 [.int .i64 132] from rfl) (Reps.one (show Kd.M (Kd.int .i64) _ _ _ 133 [.int .i64 133] from rfl) (Reps.none _ _)))))))))))))); intro v179 w8 ho9 hb hg_ hnew_; clear hg_ hnew_; (first | rw [← Ny178.out] at ho9 | (simp only [Int.reduceToNat] at ho9; rw [← Ny178.out] at ho9)); have n0_ := Aside0.mk (Kd.R_below (by (with_reducible repeat (first | apply Kd.R_alloc | apply Kd.R_drewN | apply Kd.R_drew)); exact HO177.out) hb); have n1_ := Aside0.mk (Kd.R_lower ho9 (below_size (by repeat (first | (with_reducible first | exact HB.out | apply below_alloc | apply pw_below_drewN | apply below_drew1) | exact HB.out)))); have n2_ := Aside0.mk (below_step (by repeat (first | (with_reducible first | exact HB.out | apply below_alloc | apply pw_below_drewN | apply below_drew1) | exact HB.out)) hb); clear HO177; clear HB; have HO177 := n0_; have HO180 := n1_; have HB := n2_; clear n0_ n1_ n2_; clear hb ho9))
    go_loopg [9] k (fun kq v9 w' => ∃ (x9_1 : Int), v9 = .int .i64 x9_1 ∧ Aside0 (cloakroomlaw13_NumSums.l0 kq a0 a1 y175 y178 x9_1 = some r) ∧ Aside0 (kq ≤ k) ∧ Aside0 (Kd.R (Kd.int .u64) 22 w' w.heap.size (fun _ => True) v176 y175) ∧ Aside0 (Kd.R (Kd.int .i64) 3 w' w.heap.size (fun _ => True) v179 y178) ∧ Aside0 (Below w.heap.size w w'))
    case atStart => exact ⟨(0), (by first | rfl | (simp; done) | (simp [*]; done)), H', ⟨Nat.le_refl _⟩, ⟨by (with_reducible repeat (first | apply Kd.R_alloc | apply Kd.R_drewN | apply Kd.R_drew)); exact HO177.out⟩, ⟨by (with_reducible repeat (first | apply Kd.R_alloc | apply Kd.R_drewN | apply Kd.R_drew)); exact HO180.out⟩, ⟨by repeat (first | (with_reducible first | exact HB.out | apply below_alloc | apply pw_below_drewN | apply below_drew1) | exact HB.out)⟩⟩
    case round =>
      clear H'
      try clear c1
      try clear p2
      try clear c4
      try clear c5
      obtain ⟨x9_1, rfl, HA, HK1, HO_7, HO_8, HB⟩ := hrel
      cases gk with
      | zero => exact absurd HA.out (by simp [cloakroomlaw13_NumSums.l0])
      | succ k1 =>
        have H := HA.out
        clear HA
        simp only [cloakroomlaw13_NumSums.l0] at H
        by_cases c10 : x9_1 < (y178.length : Int)
        · rw [if_pos c10] at H
          have c10b0 : decide (x9_1 < (y178.length : Int)) = true := decide_eq_true c10
          clear c10
          by_cases c11 : 0 ≤ x9_1
          · rw [if_pos c11] at H
            have c11b0 : decide (0 ≤ x9_1) = true := decide_eq_true c11
            clear c11
            replace H := Option.bind_eq_some_iff.mp H
            obtain ⟨⟨t182, t183⟩, A120, H⟩ := H
            replace H : (if t183 = 0 then (if x9_1 < (y175.length : Int) then (if t182 = (rd y175 x9_1) then (cloakroomlaw13_NumSums.l0 k1 a0 a1 y175 y178 (wrap64 (x9_1 + 1))) else (some false)) else (none)) else (some false)) = some r := H
            have A12 := Aside0.mk A120
            clear A120
            by_cases c13 : t183 = 0
            · rw [if_pos c13] at H
              have c13b0 : (t183 == 0) = true := beq_iff_eq.mpr c13
              have c13b1 : (t183 != 0) = false := bne_eq_false_iff_eq.mpr c13
              clear c13
              by_cases c14 : x9_1 < (y175.length : Int)
              · rw [if_pos c14] at H
                have c14b0 : decide (x9_1 < (y175.length : Int)) = true := decide_eq_true c14
                clear c14
                by_cases c15 : t182 = (rd y175 x9_1)
                · rw [if_pos c15] at H
                  have c15b0 : (t182 == (rd y175 x9_1)) = true := beq_iff_eq.mpr c15
                  have c15b1 : (t182 != (rd y175 x9_1)) = false := bne_eq_false_iff_eq.mpr c15
                  clear c15
                  have H' := Aside0.mk H
                  clear H
                  obtain ⟨Ao16, co16, eo16⟩ := Kd.R_slice HO_8.out
                  subst eo16
                  have p181 : 0 ≤ (x9_1 : Int) := of_decide_eq_true (by first | (with_reducible assumption) | assumption)
                  have q181 : x9_1 < (y178.length : Int) := of_decide_eq_true (by first | (with_reducible assumption) | assumption)
                  obtain ⟨ad181, e181, hx181_0⟩ := Kd.at_int (Kd.R_reads' HO_8.out).2.2 x9_1 p181 q181
                  cases e181
                  replace p181 := eq_true p181
                  replace q181 := eq_true q181
                  go_wp2_with (first | ((with_reducible refine gate_callee (f := 17) rfl ?_); refine goesL_ (some 75) rfl rfl Tryd.func17 (by kernel_rfl) rfl #[.int .i64 (rd y178 x9_1), .int .u64 a0, .int .u64 a1] rfl (by (try simp only [List.map_toArray, List.map_cons, List.map_nil]); first | done | rfl | (simp only [List.length_drop, List.length_take]; rfl)) ?_; (with_reducible refine (num_Two.calls k1 (rd y178 x9_1) a0 a1 t182 t183 _ A12.out).mono ?_); rintro e w17 ⟨rfl, hb⟩; refine ⟨_, rfl, ?_⟩; have n0_ := Aside0.mk (Kd.R_below (by (with_reducible repeat (first | apply Kd.R_alloc | apply Kd.R_drewN | apply Kd.R_drew)); exact HO_7.out) hb); have n1_ := Aside0.mk (Kd.R_below (by (with_reducible repeat (first | apply Kd.R_alloc | apply Kd.R_drewN | apply Kd.R_drew)); exact HO_8.out) hb); have n2_ := Aside0.mk (below_step (by repeat (first | (with_reducible first | exact HB.out | apply below_alloc | apply pw_below_drewN | apply below_drew1) | exact HB.out)) hb); clear HO_7; clear HO_8; clear HB; have HO_7 := n0_; have HO_8 := n1_; have HB := n2_; clear n0_ n1_ n2_; (try clear hb); (try clear hb2); (try clear hk); (try clear hi); obtain ⟨Ao18, co18, eo18⟩ := Kd.R_slice HO_7.out; subst eo18; have p184 : 0 ≤ (x9_1 : Int) := of_decide_eq_true (by first | (with_reducible assumption) | assumption); have q184 : x9_1 < (y175.length : Int) := of_decide_eq_true (by first | (with_reducible assumption) | assumption); obtain ⟨ad184, e184, hx184_0⟩ := Kd.at_int (Kd.R_reads' HO_7.out).2.2 x9_1 p184 q184; cases e184; replace p184 := eq_true p184; replace q184 := eq_true q184))
                  go_roundg k1
                  case measure => have := HK1.out; omega
                  case rel => exact ⟨(wrap64 (x9_1 + 1)), (by first | rfl | (simp; done) | (simp [*]; done)), H', ⟨by have := HK1.out; omega⟩, ⟨by (with_reducible repeat (first | apply Kd.R_alloc | apply Kd.R_drewN | apply Kd.R_drew)); exact HO_7.out⟩, ⟨by (with_reducible repeat (first | apply Kd.R_alloc | apply Kd.R_drewN | apply Kd.R_drew)); exact HO_8.out⟩, ⟨by repeat (first | (with_reducible first | exact HB.out | apply below_alloc | apply pw_below_drewN | apply below_drew1) | exact HB.out)⟩⟩
                · rw [if_neg c15] at H
                  have c15b0 : (t182 == (rd y175 x9_1)) = false := beq_eq_false_iff_ne.mpr c15
                  have c15b1 : (t182 != (rd y175 x9_1)) = true := bne_iff_ne.mpr c15
                  obtain rfl := Option.some.inj H
                  obtain ⟨Ao19, co19, eo19⟩ := Kd.R_slice HO_8.out
                  subst eo19
                  have p181 : 0 ≤ (x9_1 : Int) := of_decide_eq_true (by first | (with_reducible assumption) | assumption)
                  have q181 : x9_1 < (y178.length : Int) := of_decide_eq_true (by first | (with_reducible assumption) | assumption)
                  obtain ⟨ad181, e181, hx181_0⟩ := Kd.at_int (Kd.R_reads' HO_8.out).2.2 x9_1 p181 q181
                  cases e181
                  replace p181 := eq_true p181
                  replace q181 := eq_true q181
                  go_wp2_with (first | ((with_reducible refine gate_callee (f := 17) rfl ?_); refine goesL_ (some 75) rfl rfl Tryd.func17 (by kernel_rfl) rfl #[.int .i64 (rd y178 x9_1), .int .u64 a0, .int .u64 a1] rfl (by (try simp only [List.map_toArray, List.map_cons, List.map_nil]); first | done | rfl | (simp only [List.length_drop, List.length_take]; rfl)) ?_; (with_reducible refine (num_Two.calls k1 (rd y178 x9_1) a0 a1 t182 t183 _ A12.out).mono ?_); rintro e w20 ⟨rfl, hb⟩; refine ⟨_, rfl, ?_⟩; have n0_ := Aside0.mk (Kd.R_below (by (with_reducible repeat (first | apply Kd.R_alloc | apply Kd.R_drewN | apply Kd.R_drew)); exact HO_7.out) hb); have n1_ := Aside0.mk (Kd.R_below (by (with_reducible repeat (first | apply Kd.R_alloc | apply Kd.R_drewN | apply Kd.R_drew)); exact HO_8.out) hb); have n2_ := Aside0.mk (below_step (by repeat (first | (with_reducible first | exact HB.out | apply below_alloc | apply pw_below_drewN | apply below_drew1) | exact HB.out)) hb); clear HO_7; clear HO_8; clear HB; have HO_7 := n0_; have HO_8 := n1_; have HB := n2_; clear n0_ n1_ n2_; (try clear hb); (try clear hb2); (try clear hk); (try clear hi); obtain ⟨Ao21, co21, eo21⟩ := Kd.R_slice HO_7.out; subst eo21; have p184 : 0 ≤ (x9_1 : Int) := of_decide_eq_true (by first | (with_reducible assumption) | assumption); have q184 : x9_1 < (y175.length : Int) := of_decide_eq_true (by first | (with_reducible assumption) | assumption); obtain ⟨ad184, e184, hx184_0⟩ := Kd.at_int (Kd.R_reads' HO_7.out).2.2 x9_1 p184 q184; cases e184; replace p184 := eq_true p184; replace q184 := eq_true q184))
                  go_ret
                  exact ⟨by first | rfl | (simp [errW_none, errW_some] <;> rfl) | (simp [*, errW_none, errW_some] <;> rfl), by repeat (first | (with_reducible first | exact HB.out | apply below_alloc | apply pw_below_drewN | apply below_drew1) | exact HB.out)⟩
              · rw [if_neg c14] at H
                exact absurd H (by simp)
            · rw [if_neg c13] at H
              have c13b0 : (t183 == 0) = false := beq_eq_false_iff_ne.mpr c13
              have c13b1 : (t183 != 0) = true := bne_iff_ne.mpr c13
              obtain rfl := Option.some.inj H
              obtain ⟨Ao22, co22, eo22⟩ := Kd.R_slice HO_8.out
              subst eo22
              have p181 : 0 ≤ (x9_1 : Int) := of_decide_eq_true (by first | (with_reducible assumption) | assumption)
              have q181 : x9_1 < (y178.length : Int) := of_decide_eq_true (by first | (with_reducible assumption) | assumption)
              obtain ⟨ad181, e181, hx181_0⟩ := Kd.at_int (Kd.R_reads' HO_8.out).2.2 x9_1 p181 q181
              cases e181
              replace p181 := eq_true p181
              replace q181 := eq_true q181
              go_wp2_with (first | ((with_reducible refine gate_callee (f := 17) rfl ?_); refine goesL_ (some 75) rfl rfl Tryd.func17 (by kernel_rfl) rfl #[.int .i64 (rd y178 x9_1), .int .u64 a0, .int .u64 a1] rfl (by (try simp only [List.map_toArray, List.map_cons, List.map_nil]); first | done | rfl | (simp only [List.length_drop, List.length_take]; rfl)) ?_; (with_reducible refine (num_Two.calls k1 (rd y178 x9_1) a0 a1 t182 t183 _ A12.out).mono ?_); rintro e w23 ⟨rfl, hb⟩; refine ⟨_, rfl, ?_⟩; have n0_ := Aside0.mk (Kd.R_below (by (with_reducible repeat (first | apply Kd.R_alloc | apply Kd.R_drewN | apply Kd.R_drew)); exact HO_7.out) hb); have n1_ := Aside0.mk (Kd.R_below (by (with_reducible repeat (first | apply Kd.R_alloc | apply Kd.R_drewN | apply Kd.R_drew)); exact HO_8.out) hb); have n2_ := Aside0.mk (below_step (by repeat (first | (with_reducible first | exact HB.out | apply below_alloc | apply pw_below_drewN | apply below_drew1) | exact HB.out)) hb); clear HO_7; clear HO_8; clear HB; have HO_7 := n0_; have HO_8 := n1_; have HB := n2_; clear n0_ n1_ n2_; (try clear hb); (try clear hb2); (try clear hk); (try clear hi)))
              go_ret
              exact ⟨by first | rfl | (simp [errW_none, errW_some] <;> rfl) | (simp [*, errW_none, errW_some] <;> rfl), by repeat (first | (with_reducible first | exact HB.out | apply below_alloc | apply pw_below_drewN | apply below_drew1) | exact HB.out)⟩
          · rw [if_neg c11] at H
            exact absurd H (by simp)
        · rw [if_neg c10] at H
          have c10b0 : decide (x9_1 < (y178.length : Int)) = false := decide_eq_false c10
          clear c10
          obtain rfl := Option.some.inj H
          obtain ⟨Ao24, co24, eo24⟩ := Kd.R_slice HO_8.out
          subst eo24
          go_wp2
          go_ret
          exact ⟨by first | rfl | (simp [errW_none, errW_some] <;> rfl) | (simp [*, errW_none, errW_some] <;> rfl), by repeat (first | (with_reducible first | exact HB.out | apply below_alloc | apply pw_below_drewN | apply below_drew1) | exact HB.out)⟩
  · replace c4 := Bool.eq_false_iff.mpr c4
    subst c4
    have H1 : (some false) = some r := by rw [if_neg (show ¬ (false = true) by decide)] at H; exact H
    clear H
    have H := H1
    clear H1
    obtain rfl := Option.some.inj H
    go_enter Tryd.func5, Tryd.ntmps5
    go_wp2_with (first | ((with_reducible refine gate_callee (f := 12) rfl ?_); refine goesL_ (some 12) rfl rfl Tryd.func12 (by kernel_rfl) rfl #[] rfl (by (try simp only [List.map_toArray, List.map_cons, List.map_nil]); first | done | rfl | (simp only [List.length_drop, List.length_take]; rfl)) ?_; (with_reducible refine (cloakroomlaw13_begun.calls k  false _ A3.out).mono ?_); rintro e w25 ⟨rfl, hb⟩; refine ⟨_, rfl, ?_⟩; have n0_ := Aside0.mk (below_step (by repeat (first | (with_reducible first | exact HB.out | apply below_alloc | apply pw_below_drewN | apply below_drew1) | exact HB.out)) hb); clear HB; have HB := n0_; clear n0_; (try clear hb); (try clear hb2); (try clear hk); (try clear hi)))
    go_ret
    exact ⟨by first | rfl | (simp [errW_none, errW_some] <;> rfl) | (simp [*, errW_none, errW_some] <;> rfl), by repeat (first | (with_reducible first | exact HB.out | apply below_alloc | apply pw_below_drewN | apply below_drew1) | exact HB.out)⟩

/-- THE ONE PURE STATEMENT of cloakroomlaw13_NumSums: yours. -/
def cloakroomlaw13_NumSums.Pure : Prop := ∀ (a0 : Int) (a1 : Int), (Lit.int .u64 a0).wf = true → (Lit.int .u64 a1).wf = true → ∃ k, cloakroomlaw13_NumSums.f k a0 a1 = some true
theorem cloakroomlaw13_NumSums.walk (P : cloakroomlaw13_NumSums.Pure) (a0 : Int) (a1 : Int) (w : World) (w0 : (Lit.int .u64 a0).wf = true) (w1 : (Lit.int .u64 a1).wf = true) :
    Calls Tryd.prog 5 #[.int .u64 a0, .int .u64 a1] w fun e w' => e = .returned (.bool true) ∧ Below w.heap.size w w' := by
  obtain ⟨k, h⟩ := P a0 a1 w0 w1
  refine (cloakroomlaw13_NumSums.calls k a0 a1 true w h).mono ?_
  rintro e w' ⟨rfl, hd⟩
  exact ⟨rfl, hd⟩

/-! ### cloakroomlaw13_NumCompares: function 8 -/
def cloakroomlaw13_NumCompares.l0 : Nat → Int → Int → List Bool → Int → Option (Bool)
  | 0, _, _, _, _ => none
  | k + 1, x0, x1, x9, x10 => if x10 < 20 then (if x10 ≥ 10 then ((num_Two.f k (wrap64 ((wrap64 (81 + x10)) - 10)) x0 x1).bind fun bt189 => (if bt189.2 = 0 then (if 0 ≤ x10 then (if x10 < (x9.length : Int) then (if ((bt189.1 == 1) != (rdOf false x9 x10)) = true then (some false) else (if bt189.1 > 1 then (some false) else (cloakroomlaw13_NumCompares.l0 k x0 x1 x9 (wrap64 (x10 + 1))))) else (none)) else (none)) else (some false))) else ((num_Two.f k (wrap64 (70 + x10)) x0 x1).bind fun bt192 => (if bt192.2 = 0 then (if 0 ≤ x10 then (if x10 < (x9.length : Int) then (if ((bt192.1 == 1) != (rdOf false x9 x10)) = true then (some false) else (if bt192.1 > 1 then (some false) else (cloakroomlaw13_NumCompares.l0 k x0 x1 x9 (wrap64 (x10 + 1))))) else (none)) else (none)) else (some false)))) else (some true)
def cloakroomlaw13_NumCompares.f (k : Nat) (a0 : Int) (a1 : Int) : Option (Bool) := (cloakroomlaw13_begun.f k).bind fun t185 => (if t185 = true then (cloakroomlaw13_NumCompares.l0 k a0 a1 (([((wrap32 (a0)) == (wrap32 (a1))), ((wrap32 (a0)) != (wrap32 (a1))), decide ((wrap32 (a0)) < (wrap32 (a1))), decide (((a0) % 4294967296) < ((a1) % 4294967296)), decide ((wrap32 (a0)) > (wrap32 (a1))), decide (((a0) % 4294967296) > ((a1) % 4294967296)), decide ((wrap32 (a0)) ≤ (wrap32 (a1))), decide (((a0) % 4294967296) ≤ ((a1) % 4294967296)), decide ((wrap32 (a0)) ≥ (wrap32 (a1))), decide (((a0) % 4294967296) ≥ ((a1) % 4294967296)), (a0 == a1), (a0 != a1), decide ((wrap64 (a0)) < (wrap64 (a1))), decide (a0 < a1), decide ((wrap64 (a0)) > (wrap64 (a1))), decide (a0 > a1), decide ((wrap64 (a0)) ≤ (wrap64 (a1))), decide (a0 ≤ a1), decide ((wrap64 (a0)) ≥ (wrap64 (a1))), decide (a0 ≥ a1)] : List Bool)) 0) else (some false))
theorem cloakroomlaw13_NumCompares.mono_l : ∀ k, (∀ y0 y1 y2 y3, LeO (cloakroomlaw13_NumCompares.l0 k y0 y1 y2 y3) (cloakroomlaw13_NumCompares.l0 (k + 1) y0 y1 y2 y3))
  | 0 => fun _ _ _ _ r h => by simp [cloakroomlaw13_NumCompares.l0] at h
  | k + 1 => by
    have ih0 := cloakroomlaw13_NumCompares.mono_l k
    · intro y0 y1 y2 y3
      unfold cloakroomlaw13_NumCompares.l0
      repeat' first
      | (with_reducible exact ih0 _ _ _ _)
      | (with_reducible exact cloakroomlaw13_begun.mono _)
      | (with_reducible exact num_Two.mono _ _ _ _)
      | (with_reducible exact LeO.refl _)
      | (with_reducible exact LeO.none _)
      | (with_reducible refine LeO.ite ?_ ?_)
      | (with_reducible refine LeO.bind ?_ (fun _ => ?_))
      | exact ih0 _ _ _ _
      | exact cloakroomlaw13_begun.mono _
      | exact num_Two.mono _ _ _ _
      | exact LeO.none _
      | refine LeO.ite ?_ ?_
      | refine LeO.bind ?_ (fun _ => ?_)
theorem cloakroomlaw13_NumCompares.mono : ∀ a0 a1 k, LeO (cloakroomlaw13_NumCompares.f k a0 a1) (cloakroomlaw13_NumCompares.f (k + 1) a0 a1) := by
  intro a0 a1 k
  have ih0 := cloakroomlaw13_NumCompares.mono_l k
  unfold cloakroomlaw13_NumCompares.f
  repeat' first
      | (with_reducible exact ih0 _ _ _ _)
      | (with_reducible exact cloakroomlaw13_begun.mono _)
      | (with_reducible exact num_Two.mono _ _ _ _)
      | (with_reducible exact LeO.refl _)
      | (with_reducible exact LeO.none _)
      | (with_reducible refine LeO.ite ?_ ?_)
      | (with_reducible refine LeO.bind ?_ (fun _ => ?_))
      | exact ih0 _ _ _ _
      | exact cloakroomlaw13_begun.mono _
      | exact num_Two.mono _ _ _ _
      | exact LeO.none _
      | refine LeO.ite ?_ ?_
      | refine LeO.bind ?_ (fun _ => ?_)
set_option maxHeartbeats 8000000 in
set_option maxRecDepth 100000 in
theorem cloakroomlaw13_NumCompares.calls (k : Nat) (a0 : Int) (a1 : Int) (r : Bool) (w : World) (h : cloakroomlaw13_NumCompares.f k a0 a1 = some r) :
    Calls Tryd.prog 8 #[.int .u64 a0, .int .u64 a1] w fun e w' => e = .returned (.bool r) ∧ Below w.heap.size w w' := by
  have HB := Aside0.mk (Below.refl w.heap.size w)
  have H : ((cloakroomlaw13_begun.f k).bind fun t185 => (if t185 = true then (cloakroomlaw13_NumCompares.l0 k a0 a1 (([((wrap32 (a0)) == (wrap32 (a1))), ((wrap32 (a0)) != (wrap32 (a1))), decide ((wrap32 (a0)) < (wrap32 (a1))), decide (((a0) % 4294967296) < ((a1) % 4294967296)), decide ((wrap32 (a0)) > (wrap32 (a1))), decide (((a0) % 4294967296) > ((a1) % 4294967296)), decide ((wrap32 (a0)) ≤ (wrap32 (a1))), decide (((a0) % 4294967296) ≤ ((a1) % 4294967296)), decide ((wrap32 (a0)) ≥ (wrap32 (a1))), decide (((a0) % 4294967296) ≥ ((a1) % 4294967296)), (a0 == a1), (a0 != a1), decide ((wrap64 (a0)) < (wrap64 (a1))), decide (a0 < a1), decide ((wrap64 (a0)) > (wrap64 (a1))), decide (a0 > a1), decide ((wrap64 (a0)) ≤ (wrap64 (a1))), decide (a0 ≤ a1), decide ((wrap64 (a0)) ≥ (wrap64 (a1))), decide (a0 ≥ a1)] : List Bool)) 0) else (some false))) = some r := h
  clear h
  replace H := Option.bind_eq_some_iff.mp H
  obtain ⟨t185, A30, H⟩ := H
  replace H : (if t185 = true then (cloakroomlaw13_NumCompares.l0 k a0 a1 (([((wrap32 (a0)) == (wrap32 (a1))), ((wrap32 (a0)) != (wrap32 (a1))), decide ((wrap32 (a0)) < (wrap32 (a1))), decide (((a0) % 4294967296) < ((a1) % 4294967296)), decide ((wrap32 (a0)) > (wrap32 (a1))), decide (((a0) % 4294967296) > ((a1) % 4294967296)), decide ((wrap32 (a0)) ≤ (wrap32 (a1))), decide (((a0) % 4294967296) ≤ ((a1) % 4294967296)), decide ((wrap32 (a0)) ≥ (wrap32 (a1))), decide (((a0) % 4294967296) ≥ ((a1) % 4294967296)), (a0 == a1), (a0 != a1), decide ((wrap64 (a0)) < (wrap64 (a1))), decide (a0 < a1), decide ((wrap64 (a0)) > (wrap64 (a1))), decide (a0 > a1), decide ((wrap64 (a0)) ≤ (wrap64 (a1))), decide (a0 ≤ a1), decide ((wrap64 (a0)) ≥ (wrap64 (a1))), decide (a0 ≥ a1)] : List Bool)) 0) else (some false)) = some r := H
  have A3 := Aside0.mk A30
  clear A30
  by_cases c4 : t185 = true
  · subst c4
    have H1 : (cloakroomlaw13_NumCompares.l0 k a0 a1 (([((wrap32 (a0)) == (wrap32 (a1))), ((wrap32 (a0)) != (wrap32 (a1))), decide ((wrap32 (a0)) < (wrap32 (a1))), decide (((a0) % 4294967296) < ((a1) % 4294967296)), decide ((wrap32 (a0)) > (wrap32 (a1))), decide (((a0) % 4294967296) > ((a1) % 4294967296)), decide ((wrap32 (a0)) ≤ (wrap32 (a1))), decide (((a0) % 4294967296) ≤ ((a1) % 4294967296)), decide ((wrap32 (a0)) ≥ (wrap32 (a1))), decide (((a0) % 4294967296) ≥ ((a1) % 4294967296)), (a0 == a1), (a0 != a1), decide ((wrap64 (a0)) < (wrap64 (a1))), decide (a0 < a1), decide ((wrap64 (a0)) > (wrap64 (a1))), decide (a0 > a1), decide ((wrap64 (a0)) ≤ (wrap64 (a1))), decide (a0 ≤ a1), decide ((wrap64 (a0)) ≥ (wrap64 (a1))), decide (a0 ≥ a1)] : List Bool)) 0) = some r := by rw [if_pos rfl] at H; exact H
    clear H
    have H := H1
    clear H1
    obtain ⟨y186, hy186⟩ : ∃ y_ : List Bool, y_ = (([((wrap32 (a0)) == (wrap32 (a1))), ((wrap32 (a0)) != (wrap32 (a1))), decide ((wrap32 (a0)) < (wrap32 (a1))), decide (((a0) % 4294967296) < ((a1) % 4294967296)), decide ((wrap32 (a0)) > (wrap32 (a1))), decide (((a0) % 4294967296) > ((a1) % 4294967296)), decide ((wrap32 (a0)) ≤ (wrap32 (a1))), decide (((a0) % 4294967296) ≤ ((a1) % 4294967296)), decide ((wrap32 (a0)) ≥ (wrap32 (a1))), decide (((a0) % 4294967296) ≥ ((a1) % 4294967296)), (a0 == a1), (a0 != a1), decide ((wrap64 (a0)) < (wrap64 (a1))), decide (a0 < a1), decide ((wrap64 (a0)) > (wrap64 (a1))), decide (a0 > a1), decide ((wrap64 (a0)) ≤ (wrap64 (a1))), decide (a0 ≤ a1), decide ((wrap64 (a0)) ≥ (wrap64 (a1))), decide (a0 ≥ a1)] : List Bool)) := ⟨_, rfl⟩
    replace H : (cloakroomlaw13_NumCompares.l0 k a0 a1 y186 0) = some r := by first | (rw [hy186]; with_reducible exact H) | (have H2_ := (Option.bind_some _ _).symm.trans H; rw [hy186]; with_reducible exact H2_) | (have H2_ := (Option.bind_some _ _).symm.trans H; with_reducible exact H2_) | with_reducible exact H | (rw [hy186]; exact H) | exact H
    have Ny186 := Aside0.mk hy186
    clear hy186
    have H' := Aside0.mk H
    clear H
    go_enter Tryd.func8, Tryd.ntmps8
    go_wp2_with (first | ((with_reducible refine gate_callee (f := 12) rfl ?_); refine goesL_ (some 14) rfl rfl Tryd.func12 (by kernel_rfl) rfl #[] rfl (by (try simp only [List.map_toArray, List.map_cons, List.map_nil]); first | done | rfl | (simp only [List.length_drop, List.length_take]; rfl)) ?_; (with_reducible refine (cloakroomlaw13_begun.calls k  true _ A3.out).mono ?_); rintro e w5 ⟨rfl, hb⟩; refine ⟨_, rfl, ?_⟩; have n0_ := Aside0.mk (below_step (by repeat (first | (with_reducible first | exact HB.out | apply below_alloc | apply pw_below_drewN | apply below_drew1) | exact HB.out)) hb); clear HB; have HB := n0_; clear n0_; (try clear hb); (try clear hb2); (try clear hk); (try clear hi)) | ((with_reducible refine gate_dst (N := 92) rfl ?_); refine Kd.R_lit Kd.bool _ 4 ?hg (N := 92) ?hd (xs := ([((wrap32 (a0)) == (wrap32 (a1))), ((wrap32 (a0)) != (wrap32 (a1))), decide ((wrap32 (a0)) < (wrap32 (a1))), decide (((a0) % 4294967296) < ((a1) % 4294967296)), decide ((wrap32 (a0)) > (wrap32 (a1))), decide (((a0) % 4294967296) > ((a1) % 4294967296)), decide ((wrap32 (a0)) ≤ (wrap32 (a1))), decide (((a0) % 4294967296) ≤ ((a1) % 4294967296)), decide ((wrap32 (a0)) ≥ (wrap32 (a1))), decide (((a0) % 4294967296) ≥ ((a1) % 4294967296)), (a0 == a1), (a0 != a1), decide ((wrap64 (a0)) < (wrap64 (a1))), decide (a0 < a1), decide ((wrap64 (a0)) > (wrap64 (a1))), decide (a0 > a1), decide ((wrap64 (a0)) ≤ (wrap64 (a1))), decide (a0 ≤ a1), decide ((wrap64 (a0)) ≥ (wrap64 (a1))), decide (a0 ≥ a1)] : List Bool)) (inner := [.bool ((wrap32 (a0)) == (wrap32 (a1))), .bool ((wrap32 (a0)) != (wrap32 (a1))), .bool (decide ((wrap32 (a0)) < (wrap32 (a1)))), .bool (decide (((a0) % 4294967296) < ((a1) % 4294967296))), .bool (decide ((wrap32 (a0)) > (wrap32 (a1)))), .bool (decide (((a0) % 4294967296) > ((a1) % 4294967296))), .bool (decide ((wrap32 (a0)) ≤ (wrap32 (a1)))), .bool (decide (((a0) % 4294967296) ≤ ((a1) % 4294967296))), .bool (decide ((wrap32 (a0)) ≥ (wrap32 (a1)))), .bool (decide (((a0) % 4294967296) ≥ ((a1) % 4294967296))), .bool (a0 == a1), .bool (a0 != a1), .bool (decide ((wrap64 (a0)) < (wrap64 (a1)))), .bool (decide (a0 < a1)), .bool (decide ((wrap64 (a0)) > (wrap64 (a1)))), .bool (decide (a0 > a1)), .bool (decide ((wrap64 (a0)) ≤ (wrap64 (a1)))), .bool (decide (a0 ≤ a1)), .bool (decide ((wrap64 (a0)) ≥ (wrap64 (a1)))), .bool (decide (a0 ≥ a1))]) (ok := fun _ => True) (okp := fun _ => True) ?hr ?hp (fun _ hk => hk) trivial (Below.refl _ _) (Nat.le_refl _) (by simp) ?_; (case hd => rfl); (case hg => rfl); (case hr => first | (go_simp; done) | (go_simp; rfl)); (case hp => exact (Reps.one (show Kd.M Kd.bool _ _ _ ((wrap32 (a0)) == (wrap32 (a1))) [.bool ((wrap32 (a0)) == (wrap32 (a1)))] from rfl) (Reps.one (show Kd.M Kd.bool _ _ _ ((wrap32 (a0)) != (wrap32 (a1))) [.bool ((wrap32 (a0)) != (wrap32 (a1)))] from rfl) (Reps.one (show Kd.M Kd.bool _ _ _ (decide ((wrap32 (a0)) < (wrap32 (a1)))) [.bool (decide ((wrap32 (a0)) < (wrap32 (a1))))] from rfl) (Reps.one (show Kd.M Kd.bool _ _ _ (decide (((a0) % 4294967296) < ((a1) % 4294967296))) [.bool (decide (((a0) % 4294967296) < ((a1) % 4294967296)))] from rfl) (Reps.one (show Kd.M Kd.bool _ _ _ (decide ((wrap32 (a0)) > (wrap32 (a1)))) [.bool (decide ((wrap32 (a0)) > (wrap32 (a1))))] from rfl) (Reps.one (show Kd.M Kd.bool _ _ _ (decide (((a0) % 4294967296) > ((a1) % 4294967296))) [.bool (decide (((a0) % 4294967296) > ((a1) % 4294967296)))] from rfl) (Reps.one (show Kd.M Kd.bool _ _ _ (decide ((wrap32 (a0)) ≤ (wrap32 (a1)))) [.bool (decide ((wrap32 (a0)) ≤ (wrap32 (a1))))] from rfl) (Reps.one (show Kd.M Kd.bool _ _ _ (decide (((a0) % 4294967296) ≤ ((a1) % 4294967296))) [.bool (decide (((a0) % 4294967296) ≤ ((a1) % 4294967296)))] from rfl) (Reps.one (show Kd.M Kd.bool _ _ _ (decide ((wrap32 (a0)) ≥ (wrap32 (a1)))) [.bool (decide ((wrap32 (a0)) ≥ (wrap32 (a1))))] from rfl) (Reps.one (show Kd.M Kd.bool _ _ _ (decide (((a0) % 4294967296) ≥ ((a1) % 4294967296))) [.bool (decide (((a0) % 4294967296) ≥ ((a1) % 4294967296)))] from rfl) (Reps.one (show Kd.M Kd.bool _ _ _ (a0 == a1) [.bool (a0 == a1)] from rfl) (Reps.one (show Kd.M Kd.bool _ _ _ (a0 != a1) [.bool (a0 != a1)] from rfl) (Reps.one (show Kd.M Kd.bool _ _ _ (decide ((wrap64 (a0)) < (wrap64 (a1)))) [.bool (decide ((wrap64 (a0)) < (wrap64 (a1))))] from rfl) (Reps.one (show Kd.M Kd.bool _ _ _ (decide (a0 < a1)) [.bool (decide (a0 < a1))] from rfl) (Reps.one (show Kd.M Kd.bool _ _ _ (decide ((wrap64 (a0)) > (wrap64 (a1)))) [.bool (decide ((wrap64 (a0)) > (wrap64 (a1))))] from rfl) (Reps.one (show Kd.M Kd.bool _ _ _ (decide (a0 > a1)) [.bool (decide (a0 > a1))] from rfl) (Reps.one (show Kd.M Kd.bool _ _ _ (decide ((wrap64 (a0)) ≤ (wrap64 (a1)))) [.bool (decide ((wrap64 (a0)) ≤ (wrap64 (a1))))] from rfl) (Reps.one (show Kd.M Kd.bool _ _ _ (decide (a0 ≤ a1)) [.bool (decide (a0 ≤ a1))] from rfl) (Reps.one (show Kd.M Kd.bool _ _ _ (decide ((wrap64 (a0)) ≥ (wrap64 (a1)))) [.bool (decide ((wrap64 (a0)) ≥ (wrap64 (a1))))] from rfl) (Reps.one (show Kd.M Kd.bool _ _ _ (decide (a0 ≥ a1)) [.bool (decide (a0 ≥ a1))] from rfl) (Reps.none _ _)))))))))))))))))))))); intro v187 w6 ho7 hb hg_ hnew_; clear hg_ hnew_; (first | rw [← Ny186.out] at ho7 | (simp only [Int.reduceToNat] at ho7; rw [← Ny186.out] at ho7)); have n0_ := Aside0.mk (Kd.R_lower ho7 (below_size (by repeat (first | (with_reducible first | exact HB.out | apply below_alloc | apply pw_below_drewN | apply below_drew1) | exact HB.out)))); have n1_ := Aside0.mk (below_step (by repeat (first | (with_reducible first | exact HB.out | apply below_alloc | apply pw_below_drewN | apply below_drew1) | exact HB.out)) hb); clear HB; have HO188 := n0_; have HB := n1_; clear n0_ n1_; clear hb ho7))
    go_loopg [10] k (fun kq v10 w' => ∃ (x10_1 : Int), v10 = .int .i64 x10_1 ∧ Aside0 (cloakroomlaw13_NumCompares.l0 kq a0 a1 y186 x10_1 = some r) ∧ Aside0 (kq ≤ k) ∧ Aside0 (Kd.R Kd.bool 4 w' w.heap.size (fun _ => True) v187 y186) ∧ Aside0 (Below w.heap.size w w'))
    case atStart => exact ⟨(0), (by first | rfl | (simp; done) | (simp [*]; done)), H', ⟨Nat.le_refl _⟩, ⟨by (with_reducible repeat (first | apply Kd.R_alloc | apply Kd.R_drewN | apply Kd.R_drew)); exact HO188.out⟩, ⟨by repeat (first | (with_reducible first | exact HB.out | apply below_alloc | apply pw_below_drewN | apply below_drew1) | exact HB.out)⟩⟩
    case round =>
      clear H'
      try clear c1
      try clear p2
      try clear p3
      try clear c4
      try clear p6
      obtain ⟨x10_1, rfl, HA, HK1, HO_9, HB⟩ := hrel
      cases gk with
      | zero => exact absurd HA.out (by simp [cloakroomlaw13_NumCompares.l0])
      | succ k1 =>
        have H := HA.out
        clear HA
        simp only [cloakroomlaw13_NumCompares.l0] at H
        by_cases c8 : x10_1 < 20
        · rw [if_pos c8] at H
          have c8b0 : decide (x10_1 < 20) = true := decide_eq_true c8
          clear c8
          by_cases c9 : x10_1 ≥ 10
          · rw [if_pos c9] at H
            have c9b0 : decide (10 ≤ x10_1) = true := decide_eq_true c9
            clear c9
            replace H := Option.bind_eq_some_iff.mp H
            obtain ⟨⟨t189, t190⟩, A100, H⟩ := H
            replace H : (if t190 = 0 then (if 0 ≤ x10_1 then (if x10_1 < (y186.length : Int) then (if ((t189 == 1) != (rdOf false y186 x10_1)) = true then (some false) else (if t189 > 1 then (some false) else (cloakroomlaw13_NumCompares.l0 k1 a0 a1 y186 (wrap64 (x10_1 + 1))))) else (none)) else (none)) else (some false)) = some r := H
            have A10 := Aside0.mk A100
            clear A100
            by_cases c11 : t190 = 0
            · rw [if_pos c11] at H
              have c11b0 : (t190 == 0) = true := beq_iff_eq.mpr c11
              have c11b1 : (t190 != 0) = false := bne_eq_false_iff_eq.mpr c11
              clear c11
              by_cases c12 : 0 ≤ x10_1
              · rw [if_pos c12] at H
                have c12b0 : decide (0 ≤ x10_1) = true := decide_eq_true c12
                clear c12
                by_cases c13 : x10_1 < (y186.length : Int)
                · rw [if_pos c13] at H
                  have c13b0 : decide (x10_1 < (y186.length : Int)) = true := decide_eq_true c13
                  clear c13
                  by_cases c14 : ((t189 == 1) != (rdOf false y186 x10_1)) = true
                  · rw [if_pos c14] at H
                    have c14b0 : ((t189 == 1) != (rdOf false y186 x10_1)) = true := c14
                    (try (have c14b1 : decide ((t189 == 1) = (rdOf false y186 x10_1)) = false := by simpa using c14))
                    (try (have c14b2 : ((t189 == 1) == (rdOf false y186 x10_1)) = false := by simpa using c14))
                    (try (have c14b3 : ¬ ((t189 == 1) = (rdOf false y186 x10_1)) := by simpa using c14))
                    clear c14
                    obtain rfl := Option.some.inj H
                    go_wp2_with (first | ((with_reducible refine gate_callee (f := 17) rfl ?_); refine goesL_ (some 108) rfl rfl Tryd.func17 (by kernel_rfl) rfl #[.int .i64 (wrap64 ((wrap64 (81 + x10_1)) - 10)), .int .u64 a0, .int .u64 a1] rfl (by (try simp only [List.map_toArray, List.map_cons, List.map_nil]); first | done | rfl | (simp only [List.length_drop, List.length_take]; rfl)) ?_; (with_reducible refine (num_Two.calls k1 (wrap64 ((wrap64 (81 + x10_1)) - 10)) a0 a1 t189 t190 _ A10.out).mono ?_); rintro e w15 ⟨rfl, hb⟩; refine ⟨_, rfl, ?_⟩; have n0_ := Aside0.mk (Kd.R_below (by (with_reducible repeat (first | apply Kd.R_alloc | apply Kd.R_drewN | apply Kd.R_drew)); exact HO_9.out) hb); have n1_ := Aside0.mk (below_step (by repeat (first | (with_reducible first | exact HB.out | apply below_alloc | apply pw_below_drewN | apply below_drew1) | exact HB.out)) hb); clear HO_9; clear HB; have HO_9 := n0_; have HB := n1_; clear n0_ n1_; (try clear hb); (try clear hb2); (try clear hk); (try clear hi); obtain ⟨Ao16, co16, eo16⟩ := Kd.R_slice HO_9.out; subst eo16; have p191 : 0 ≤ (x10_1 : Int) := of_decide_eq_true (by first | (with_reducible assumption) | assumption); have q191 : x10_1 < (y186.length : Int) := of_decide_eq_true (by first | (with_reducible assumption) | assumption); obtain ⟨ad191, e191, hx191_0⟩ := Kd.at_bool (Kd.R_reads' HO_9.out).2.2 x10_1 p191 q191; cases e191; replace p191 := eq_true p191; replace q191 := eq_true q191))
                    go_ret
                    exact ⟨by first | rfl | (simp [errW_none, errW_some] <;> rfl) | (simp [*, errW_none, errW_some] <;> rfl), by repeat (first | (with_reducible first | exact HB.out | apply below_alloc | apply pw_below_drewN | apply below_drew1) | exact HB.out)⟩
                  · rw [if_neg c14] at H
                    have c14b0 : ((t189 == 1) != (rdOf false y186 x10_1)) = false := by simpa using c14
                    (try (have c14b1 : decide ((t189 == 1) = (rdOf false y186 x10_1)) = true := by simpa using c14))
                    (try (have c14b2 : ((t189 == 1) == (rdOf false y186 x10_1)) = true := by simpa using c14))
                    clear c14
                    by_cases c17 : t189 > 1
                    · rw [if_pos c17] at H
                      have c17b0 : decide (1 < t189) = true := decide_eq_true c17
                      clear c17
                      obtain rfl := Option.some.inj H
                      go_wp2_with (first | ((with_reducible refine gate_callee (f := 17) rfl ?_); refine goesL_ (some 108) rfl rfl Tryd.func17 (by kernel_rfl) rfl #[.int .i64 (wrap64 ((wrap64 (81 + x10_1)) - 10)), .int .u64 a0, .int .u64 a1] rfl (by (try simp only [List.map_toArray, List.map_cons, List.map_nil]); first | done | rfl | (simp only [List.length_drop, List.length_take]; rfl)) ?_; (with_reducible refine (num_Two.calls k1 (wrap64 ((wrap64 (81 + x10_1)) - 10)) a0 a1 t189 t190 _ A10.out).mono ?_); rintro e w18 ⟨rfl, hb⟩; refine ⟨_, rfl, ?_⟩; have n0_ := Aside0.mk (Kd.R_below (by (with_reducible repeat (first | apply Kd.R_alloc | apply Kd.R_drewN | apply Kd.R_drew)); exact HO_9.out) hb); have n1_ := Aside0.mk (below_step (by repeat (first | (with_reducible first | exact HB.out | apply below_alloc | apply pw_below_drewN | apply below_drew1) | exact HB.out)) hb); clear HO_9; clear HB; have HO_9 := n0_; have HB := n1_; clear n0_ n1_; (try clear hb); (try clear hb2); (try clear hk); (try clear hi); obtain ⟨Ao19, co19, eo19⟩ := Kd.R_slice HO_9.out; subst eo19; have p191 : 0 ≤ (x10_1 : Int) := of_decide_eq_true (by first | (with_reducible assumption) | assumption); have q191 : x10_1 < (y186.length : Int) := of_decide_eq_true (by first | (with_reducible assumption) | assumption); obtain ⟨ad191, e191, hx191_0⟩ := Kd.at_bool (Kd.R_reads' HO_9.out).2.2 x10_1 p191 q191; cases e191; replace p191 := eq_true p191; replace q191 := eq_true q191))
                      go_ret
                      exact ⟨by first | rfl | (simp [errW_none, errW_some] <;> rfl) | (simp [*, errW_none, errW_some] <;> rfl), by repeat (first | (with_reducible first | exact HB.out | apply below_alloc | apply pw_below_drewN | apply below_drew1) | exact HB.out)⟩
                    · rw [if_neg c17] at H
                      have c17b0 : decide (1 < t189) = false := decide_eq_false c17
                      clear c17
                      have H' := Aside0.mk H
                      clear H
                      go_wp2_with (first | ((with_reducible refine gate_callee (f := 17) rfl ?_); refine goesL_ (some 108) rfl rfl Tryd.func17 (by kernel_rfl) rfl #[.int .i64 (wrap64 ((wrap64 (81 + x10_1)) - 10)), .int .u64 a0, .int .u64 a1] rfl (by (try simp only [List.map_toArray, List.map_cons, List.map_nil]); first | done | rfl | (simp only [List.length_drop, List.length_take]; rfl)) ?_; (with_reducible refine (num_Two.calls k1 (wrap64 ((wrap64 (81 + x10_1)) - 10)) a0 a1 t189 t190 _ A10.out).mono ?_); rintro e w20 ⟨rfl, hb⟩; refine ⟨_, rfl, ?_⟩; have n0_ := Aside0.mk (Kd.R_below (by (with_reducible repeat (first | apply Kd.R_alloc | apply Kd.R_drewN | apply Kd.R_drew)); exact HO_9.out) hb); have n1_ := Aside0.mk (below_step (by repeat (first | (with_reducible first | exact HB.out | apply below_alloc | apply pw_below_drewN | apply below_drew1) | exact HB.out)) hb); clear HO_9; clear HB; have HO_9 := n0_; have HB := n1_; clear n0_ n1_; (try clear hb); (try clear hb2); (try clear hk); (try clear hi); obtain ⟨Ao21, co21, eo21⟩ := Kd.R_slice HO_9.out; subst eo21; have p191 : 0 ≤ (x10_1 : Int) := of_decide_eq_true (by first | (with_reducible assumption) | assumption); have q191 : x10_1 < (y186.length : Int) := of_decide_eq_true (by first | (with_reducible assumption) | assumption); obtain ⟨ad191, e191, hx191_0⟩ := Kd.at_bool (Kd.R_reads' HO_9.out).2.2 x10_1 p191 q191; cases e191; replace p191 := eq_true p191; replace q191 := eq_true q191))
                      go_roundg k1
                      case measure => have := HK1.out; omega
                      case rel => exact ⟨(wrap64 (x10_1 + 1)), (by first | rfl | (simp; done) | (simp [*]; done)), H', ⟨by have := HK1.out; omega⟩, ⟨by (with_reducible repeat (first | apply Kd.R_alloc | apply Kd.R_drewN | apply Kd.R_drew)); exact HO_9.out⟩, ⟨by repeat (first | (with_reducible first | exact HB.out | apply below_alloc | apply pw_below_drewN | apply below_drew1) | exact HB.out)⟩⟩
                · rw [if_neg c13] at H
                  exact absurd H (by simp)
              · rw [if_neg c12] at H
                exact absurd H (by simp)
            · rw [if_neg c11] at H
              have c11b0 : (t190 == 0) = false := beq_eq_false_iff_ne.mpr c11
              have c11b1 : (t190 != 0) = true := bne_iff_ne.mpr c11
              obtain rfl := Option.some.inj H
              go_wp2_with (first | ((with_reducible refine gate_callee (f := 17) rfl ?_); refine goesL_ (some 108) rfl rfl Tryd.func17 (by kernel_rfl) rfl #[.int .i64 (wrap64 ((wrap64 (81 + x10_1)) - 10)), .int .u64 a0, .int .u64 a1] rfl (by (try simp only [List.map_toArray, List.map_cons, List.map_nil]); first | done | rfl | (simp only [List.length_drop, List.length_take]; rfl)) ?_; (with_reducible refine (num_Two.calls k1 (wrap64 ((wrap64 (81 + x10_1)) - 10)) a0 a1 t189 t190 _ A10.out).mono ?_); rintro e w22 ⟨rfl, hb⟩; refine ⟨_, rfl, ?_⟩; have n0_ := Aside0.mk (Kd.R_below (by (with_reducible repeat (first | apply Kd.R_alloc | apply Kd.R_drewN | apply Kd.R_drew)); exact HO_9.out) hb); have n1_ := Aside0.mk (below_step (by repeat (first | (with_reducible first | exact HB.out | apply below_alloc | apply pw_below_drewN | apply below_drew1) | exact HB.out)) hb); clear HO_9; clear HB; have HO_9 := n0_; have HB := n1_; clear n0_ n1_; (try clear hb); (try clear hb2); (try clear hk); (try clear hi)))
              go_ret
              exact ⟨by first | rfl | (simp [errW_none, errW_some] <;> rfl) | (simp [*, errW_none, errW_some] <;> rfl), by repeat (first | (with_reducible first | exact HB.out | apply below_alloc | apply pw_below_drewN | apply below_drew1) | exact HB.out)⟩
          · rw [if_neg c9] at H
            have c9b0 : decide (10 ≤ x10_1) = false := decide_eq_false c9
            clear c9
            replace H := Option.bind_eq_some_iff.mp H
            obtain ⟨⟨t192, t193⟩, A230, H⟩ := H
            replace H : (if t193 = 0 then (if 0 ≤ x10_1 then (if x10_1 < (y186.length : Int) then (if ((t192 == 1) != (rdOf false y186 x10_1)) = true then (some false) else (if t192 > 1 then (some false) else (cloakroomlaw13_NumCompares.l0 k1 a0 a1 y186 (wrap64 (x10_1 + 1))))) else (none)) else (none)) else (some false)) = some r := H
            have A23 := Aside0.mk A230
            clear A230
            by_cases c24 : t193 = 0
            · rw [if_pos c24] at H
              have c24b0 : (t193 == 0) = true := beq_iff_eq.mpr c24
              have c24b1 : (t193 != 0) = false := bne_eq_false_iff_eq.mpr c24
              clear c24
              by_cases c25 : 0 ≤ x10_1
              · rw [if_pos c25] at H
                have c25b0 : decide (0 ≤ x10_1) = true := decide_eq_true c25
                clear c25
                by_cases c26 : x10_1 < (y186.length : Int)
                · rw [if_pos c26] at H
                  have c26b0 : decide (x10_1 < (y186.length : Int)) = true := decide_eq_true c26
                  clear c26
                  by_cases c27 : ((t192 == 1) != (rdOf false y186 x10_1)) = true
                  · rw [if_pos c27] at H
                    have c27b0 : ((t192 == 1) != (rdOf false y186 x10_1)) = true := c27
                    (try (have c27b1 : decide ((t192 == 1) = (rdOf false y186 x10_1)) = false := by simpa using c27))
                    (try (have c27b2 : ((t192 == 1) == (rdOf false y186 x10_1)) = false := by simpa using c27))
                    (try (have c27b3 : ¬ ((t192 == 1) = (rdOf false y186 x10_1)) := by simpa using c27))
                    clear c27
                    obtain rfl := Option.some.inj H
                    go_wp2_with (first | ((with_reducible refine gate_callee (f := 17) rfl ?_); refine goesL_ (some 108) rfl rfl Tryd.func17 (by kernel_rfl) rfl #[.int .i64 (wrap64 (70 + x10_1)), .int .u64 a0, .int .u64 a1] rfl (by (try simp only [List.map_toArray, List.map_cons, List.map_nil]); first | done | rfl | (simp only [List.length_drop, List.length_take]; rfl)) ?_; (with_reducible refine (num_Two.calls k1 (wrap64 (70 + x10_1)) a0 a1 t192 t193 _ A23.out).mono ?_); rintro e w28 ⟨rfl, hb⟩; refine ⟨_, rfl, ?_⟩; have n0_ := Aside0.mk (Kd.R_below (by (with_reducible repeat (first | apply Kd.R_alloc | apply Kd.R_drewN | apply Kd.R_drew)); exact HO_9.out) hb); have n1_ := Aside0.mk (below_step (by repeat (first | (with_reducible first | exact HB.out | apply below_alloc | apply pw_below_drewN | apply below_drew1) | exact HB.out)) hb); clear HO_9; clear HB; have HO_9 := n0_; have HB := n1_; clear n0_ n1_; (try clear hb); (try clear hb2); (try clear hk); (try clear hi); obtain ⟨Ao29, co29, eo29⟩ := Kd.R_slice HO_9.out; subst eo29; have p194 : 0 ≤ (x10_1 : Int) := of_decide_eq_true (by first | (with_reducible assumption) | assumption); have q194 : x10_1 < (y186.length : Int) := of_decide_eq_true (by first | (with_reducible assumption) | assumption); obtain ⟨ad194, e194, hx194_0⟩ := Kd.at_bool (Kd.R_reads' HO_9.out).2.2 x10_1 p194 q194; cases e194; replace p194 := eq_true p194; replace q194 := eq_true q194))
                    go_ret
                    exact ⟨by first | rfl | (simp [errW_none, errW_some] <;> rfl) | (simp [*, errW_none, errW_some] <;> rfl), by repeat (first | (with_reducible first | exact HB.out | apply below_alloc | apply pw_below_drewN | apply below_drew1) | exact HB.out)⟩
                  · rw [if_neg c27] at H
                    have c27b0 : ((t192 == 1) != (rdOf false y186 x10_1)) = false := by simpa using c27
                    (try (have c27b1 : decide ((t192 == 1) = (rdOf false y186 x10_1)) = true := by simpa using c27))
                    (try (have c27b2 : ((t192 == 1) == (rdOf false y186 x10_1)) = true := by simpa using c27))
                    clear c27
                    by_cases c30 : t192 > 1
                    · rw [if_pos c30] at H
                      have c30b0 : decide (1 < t192) = true := decide_eq_true c30
                      clear c30
                      obtain rfl := Option.some.inj H
                      go_wp2_with (first | ((with_reducible refine gate_callee (f := 17) rfl ?_); refine goesL_ (some 108) rfl rfl Tryd.func17 (by kernel_rfl) rfl #[.int .i64 (wrap64 (70 + x10_1)), .int .u64 a0, .int .u64 a1] rfl (by (try simp only [List.map_toArray, List.map_cons, List.map_nil]); first | done | rfl | (simp only [List.length_drop, List.length_take]; rfl)) ?_; (with_reducible refine (num_Two.calls k1 (wrap64 (70 + x10_1)) a0 a1 t192 t193 _ A23.out).mono ?_); rintro e w31 ⟨rfl, hb⟩; refine ⟨_, rfl, ?_⟩; have n0_ := Aside0.mk (Kd.R_below (by (with_reducible repeat (first | apply Kd.R_alloc | apply Kd.R_drewN | apply Kd.R_drew)); exact HO_9.out) hb); have n1_ := Aside0.mk (below_step (by repeat (first | (with_reducible first | exact HB.out | apply below_alloc | apply pw_below_drewN | apply below_drew1) | exact HB.out)) hb); clear HO_9; clear HB; have HO_9 := n0_; have HB := n1_; clear n0_ n1_; (try clear hb); (try clear hb2); (try clear hk); (try clear hi); obtain ⟨Ao32, co32, eo32⟩ := Kd.R_slice HO_9.out; subst eo32; have p194 : 0 ≤ (x10_1 : Int) := of_decide_eq_true (by first | (with_reducible assumption) | assumption); have q194 : x10_1 < (y186.length : Int) := of_decide_eq_true (by first | (with_reducible assumption) | assumption); obtain ⟨ad194, e194, hx194_0⟩ := Kd.at_bool (Kd.R_reads' HO_9.out).2.2 x10_1 p194 q194; cases e194; replace p194 := eq_true p194; replace q194 := eq_true q194))
                      go_ret
                      exact ⟨by first | rfl | (simp [errW_none, errW_some] <;> rfl) | (simp [*, errW_none, errW_some] <;> rfl), by repeat (first | (with_reducible first | exact HB.out | apply below_alloc | apply pw_below_drewN | apply below_drew1) | exact HB.out)⟩
                    · rw [if_neg c30] at H
                      have c30b0 : decide (1 < t192) = false := decide_eq_false c30
                      clear c30
                      have H' := Aside0.mk H
                      clear H
                      go_wp2_with (first | ((with_reducible refine gate_callee (f := 17) rfl ?_); refine goesL_ (some 108) rfl rfl Tryd.func17 (by kernel_rfl) rfl #[.int .i64 (wrap64 (70 + x10_1)), .int .u64 a0, .int .u64 a1] rfl (by (try simp only [List.map_toArray, List.map_cons, List.map_nil]); first | done | rfl | (simp only [List.length_drop, List.length_take]; rfl)) ?_; (with_reducible refine (num_Two.calls k1 (wrap64 (70 + x10_1)) a0 a1 t192 t193 _ A23.out).mono ?_); rintro e w33 ⟨rfl, hb⟩; refine ⟨_, rfl, ?_⟩; have n0_ := Aside0.mk (Kd.R_below (by (with_reducible repeat (first | apply Kd.R_alloc | apply Kd.R_drewN | apply Kd.R_drew)); exact HO_9.out) hb); have n1_ := Aside0.mk (below_step (by repeat (first | (with_reducible first | exact HB.out | apply below_alloc | apply pw_below_drewN | apply below_drew1) | exact HB.out)) hb); clear HO_9; clear HB; have HO_9 := n0_; have HB := n1_; clear n0_ n1_; (try clear hb); (try clear hb2); (try clear hk); (try clear hi); obtain ⟨Ao34, co34, eo34⟩ := Kd.R_slice HO_9.out; subst eo34; have p194 : 0 ≤ (x10_1 : Int) := of_decide_eq_true (by first | (with_reducible assumption) | assumption); have q194 : x10_1 < (y186.length : Int) := of_decide_eq_true (by first | (with_reducible assumption) | assumption); obtain ⟨ad194, e194, hx194_0⟩ := Kd.at_bool (Kd.R_reads' HO_9.out).2.2 x10_1 p194 q194; cases e194; replace p194 := eq_true p194; replace q194 := eq_true q194))
                      go_roundg k1
                      case measure => have := HK1.out; omega
                      case rel => exact ⟨(wrap64 (x10_1 + 1)), (by first | rfl | (simp; done) | (simp [*]; done)), H', ⟨by have := HK1.out; omega⟩, ⟨by (with_reducible repeat (first | apply Kd.R_alloc | apply Kd.R_drewN | apply Kd.R_drew)); exact HO_9.out⟩, ⟨by repeat (first | (with_reducible first | exact HB.out | apply below_alloc | apply pw_below_drewN | apply below_drew1) | exact HB.out)⟩⟩
                · rw [if_neg c26] at H
                  exact absurd H (by simp)
              · rw [if_neg c25] at H
                exact absurd H (by simp)
            · rw [if_neg c24] at H
              have c24b0 : (t193 == 0) = false := beq_eq_false_iff_ne.mpr c24
              have c24b1 : (t193 != 0) = true := bne_iff_ne.mpr c24
              obtain rfl := Option.some.inj H
              go_wp2_with (first | ((with_reducible refine gate_callee (f := 17) rfl ?_); refine goesL_ (some 108) rfl rfl Tryd.func17 (by kernel_rfl) rfl #[.int .i64 (wrap64 (70 + x10_1)), .int .u64 a0, .int .u64 a1] rfl (by (try simp only [List.map_toArray, List.map_cons, List.map_nil]); first | done | rfl | (simp only [List.length_drop, List.length_take]; rfl)) ?_; (with_reducible refine (num_Two.calls k1 (wrap64 (70 + x10_1)) a0 a1 t192 t193 _ A23.out).mono ?_); rintro e w35 ⟨rfl, hb⟩; refine ⟨_, rfl, ?_⟩; have n0_ := Aside0.mk (Kd.R_below (by (with_reducible repeat (first | apply Kd.R_alloc | apply Kd.R_drewN | apply Kd.R_drew)); exact HO_9.out) hb); have n1_ := Aside0.mk (below_step (by repeat (first | (with_reducible first | exact HB.out | apply below_alloc | apply pw_below_drewN | apply below_drew1) | exact HB.out)) hb); clear HO_9; clear HB; have HO_9 := n0_; have HB := n1_; clear n0_ n1_; (try clear hb); (try clear hb2); (try clear hk); (try clear hi)))
              go_ret
              exact ⟨by first | rfl | (simp [errW_none, errW_some] <;> rfl) | (simp [*, errW_none, errW_some] <;> rfl), by repeat (first | (with_reducible first | exact HB.out | apply below_alloc | apply pw_below_drewN | apply below_drew1) | exact HB.out)⟩
        · rw [if_neg c8] at H
          have c8b0 : decide (x10_1 < 20) = false := decide_eq_false c8
          clear c8
          obtain rfl := Option.some.inj H
          go_wp2
          go_ret
          exact ⟨by first | rfl | (simp [errW_none, errW_some] <;> rfl) | (simp [*, errW_none, errW_some] <;> rfl), by repeat (first | (with_reducible first | exact HB.out | apply below_alloc | apply pw_below_drewN | apply below_drew1) | exact HB.out)⟩
  · replace c4 := Bool.eq_false_iff.mpr c4
    subst c4
    have H1 : (some false) = some r := by rw [if_neg (show ¬ (false = true) by decide)] at H; exact H
    clear H
    have H := H1
    clear H1
    obtain rfl := Option.some.inj H
    go_enter Tryd.func8, Tryd.ntmps8
    go_wp2_with (first | ((with_reducible refine gate_callee (f := 12) rfl ?_); refine goesL_ (some 14) rfl rfl Tryd.func12 (by kernel_rfl) rfl #[] rfl (by (try simp only [List.map_toArray, List.map_cons, List.map_nil]); first | done | rfl | (simp only [List.length_drop, List.length_take]; rfl)) ?_; (with_reducible refine (cloakroomlaw13_begun.calls k  false _ A3.out).mono ?_); rintro e w36 ⟨rfl, hb⟩; refine ⟨_, rfl, ?_⟩; have n0_ := Aside0.mk (below_step (by repeat (first | (with_reducible first | exact HB.out | apply below_alloc | apply pw_below_drewN | apply below_drew1) | exact HB.out)) hb); clear HB; have HB := n0_; clear n0_; (try clear hb); (try clear hb2); (try clear hk); (try clear hi)))
    go_ret
    exact ⟨by first | rfl | (simp [errW_none, errW_some] <;> rfl) | (simp [*, errW_none, errW_some] <;> rfl), by repeat (first | (with_reducible first | exact HB.out | apply below_alloc | apply pw_below_drewN | apply below_drew1) | exact HB.out)⟩

/-- THE ONE PURE STATEMENT of cloakroomlaw13_NumCompares: yours. -/
def cloakroomlaw13_NumCompares.Pure : Prop := ∀ (a0 : Int) (a1 : Int), (Lit.int .u64 a0).wf = true → (Lit.int .u64 a1).wf = true → ∃ k, cloakroomlaw13_NumCompares.f k a0 a1 = some true
theorem cloakroomlaw13_NumCompares.walk (P : cloakroomlaw13_NumCompares.Pure) (a0 : Int) (a1 : Int) (w : World) (w0 : (Lit.int .u64 a0).wf = true) (w1 : (Lit.int .u64 a1).wf = true) :
    Calls Tryd.prog 8 #[.int .u64 a0, .int .u64 a1] w fun e w' => e = .returned (.bool true) ∧ Below w.heap.size w w' := by
  obtain ⟨k, h⟩ := P a0 a1 w0 w1
  refine (cloakroomlaw13_NumCompares.calls k a0 a1 true w h).mono ?_
  rintro e w' ⟨rfl, hd⟩
  exact ⟨rfl, hd⟩

end Go.Proofs.YtpbnbgjclalpeaaDoor.PN
