/- The law MemBack: its call answers true. -/
import Derived.Test.YtfjnhdbbjggkmaaMemBackW
set_option linter.unusedVariables false
set_option linter.unusedSimpArgs false
namespace Go.Proofs.Ytfjnhdbbjggkmaa.Mem
open Go.RowKit Go.Proofs.YtfjnhdbbjggkmaaW.PrintWords Go.Proofs.YtfjnhdbbjggkmaaW.PrintLast Go.Proofs.YtfjnhdbbjggkmaaW.PrintMore Go.Proofs.Ytfjnhdbbjggkmaa.PMemBytes
set_option maxRecDepth 100000 in
set_option maxHeartbeats 2000000 in
theorem mb4 (A : Option Addr) (cap : Nat) (l : List Int) (n1 n2 n3 n4 : Int) (p q : Nat) (W : World) (hp : n2 % 40 = p) (hq : n3 % 30 = q) (r1 : 0 ≤ n1 ∧ n1 ≤ 255) (r2 : 0 ≤ n2 ∧ n2 ≤ 255) (r3 : 0 ≤ n3 ∧ n3 ≤ 255) (r4 : 0 ≤ n4 ∧ n4 ≤ 18446744073709551615) (hj : n1 % 7 = 4)
    (hC : Kd.C (Kd.int .u8) W A l.length l) (hB : ByteL l) (hcap : l.length ≤ cap) (h60 : l.length ≤ 60) :
    Calls Try.prog 3 #[.slice A l.length cap, .int .u8 n1, .int .u8 n2, .int .u8 n3, .int .u64 n4] W fun e W' => e = .returned (.bool true) ∧ Below W.heap.size W W' := by
  have HC := Lib.hid hC
  have hp40 : p < 40 := by omega
  have hq30 : q < 30 := by omega
  clear hC
  go_enter Try.func3, Try.ntmps3
  go_wp2_with fail
  refine (begun14 _).mono ?_
  rintro e w' ⟨rfl, hb⟩
  have HC1 := Lib.hid (Kd.C_below HC.out hb)
  have HB1 := Lib.hid hb
  clear hb
  go_upto_region 9 with (fail)
  have hwd : w'.heap.size + 3 = ((((w'.alloc (Obj.cells #[.int .i64 54, .int .i64 55, .int .i64 58, .int .i64 59, .int .i64 60, .int .i64 61, .int .i64 62] 3)).alloc (Obj.cells #[.int .i64 40, .int .i64 41, .int .i64 45, .int .i64 47, .int .i64 49, .int .i64 51, .int .i64 53] 3)).alloc (Obj.cells #[.int .i64 4, .int .i64 8, .int .i64 1, .int .i64 2, .int .i64 1, .int .i64 2, .int .i64 4] 3))).heap.size := by (show _ = (((w'.heap.push _).push _).push _).size; simp)
  have hb3 : Below W.heap.size W (((w'.alloc (Obj.cells #[.int .i64 54, .int .i64 55, .int .i64 58, .int .i64 59, .int .i64 60, .int .i64 61, .int .i64 62] 3)).alloc (Obj.cells #[.int .i64 40, .int .i64 41, .int .i64 45, .int .i64 47, .int .i64 49, .int .i64 51, .int .i64 53] 3)).alloc (Obj.cells #[.int .i64 4, .int .i64 8, .int .i64 1, .int .i64 2, .int .i64 1, .int .i64 2, .int .i64 4] 3)) := (by repeat (first | exact HB1.out | apply below_alloc))
  have hc3 : Kd.C (Kd.int .u8) (((w'.alloc (Obj.cells #[.int .i64 54, .int .i64 55, .int .i64 58, .int .i64 59, .int .i64 60, .int .i64 61, .int .i64 62] 3)).alloc (Obj.cells #[.int .i64 40, .int .i64 41, .int .i64 45, .int .i64 47, .int .i64 49, .int .i64 51, .int .i64 53] 3)).alloc (Obj.cells #[.int .i64 4, .int .i64 8, .int .i64 1, .int .i64 2, .int .i64 1, .int .i64 2, .int .i64 4] 3)) A l.length l := Kd.C_below HC.out hb3
  obtain ⟨l1, l2, l3⟩ := lit3 w' (Obj.cells #[.int .i64 54, .int .i64 55, .int .i64 58, .int .i64 59, .int .i64 60, .int .i64 61, .int .i64 62] 3) (Obj.cells #[.int .i64 40, .int .i64 41, .int .i64 45, .int .i64 47, .int .i64 49, .int .i64 51, .int .i64 53] 3) (Obj.cells #[.int .i64 4, .int .i64 8, .int .i64 1, .int .i64 2, .int .i64 1, .int .i64 2, .int .i64 4] 3)
  have HB3 := Lib.hid hb3
  have HC3 := Lib.hid hc3
  have HL1 := Lib.hid l1
  have HL2 := Lib.hid l2
  have HL3 := Lib.hid l3
  have HW := Lib.hid hwd
  clear hb3 hc3 l1 l2 l3 hwd HB1 HC1
  generalize (((w'.alloc (Obj.cells #[.int .i64 54, .int .i64 55, .int .i64 58, .int .i64 59, .int .i64 60, .int .i64 61, .int .i64 62] 3)).alloc (Obj.cells #[.int .i64 40, .int .i64 41, .int .i64 45, .int .i64 47, .int .i64 49, .int .i64 51, .int .i64 53] 3)).alloc (Obj.cells #[.int .i64 4, .int .i64 8, .int .i64 1, .int .i64 2, .int .i64 1, .int .i64 2, .int .i64 4] 3)) = W3 at HB3 HC3 HL1 HL2 HL3 HW ⊢
  go_upto_region 10 with (first | ((with_reducible refine gate_dst (N := 32) rfl ?_); refine Kd.R_lit (Kd.int .u8) _ 5 ?hg (N := 32) ?hd (xs := ([] : List Int)) (inner := []) (ok := fun _ => True) (okp := fun _ => True) ?hr ?hp (fun _ hk => hk) trivial (Below.refl _ _) (Nat.le_refl _) (by simp) ?_; (case hd => rfl); (case hg => rfl); (case hr => first | (go_simp; done) | (go_simp; rfl)); (case hp => exact (Reps.none _ _)); intro v1 w2 ho1 hb1 hg1 hn1) | ((with_reducible refine gate_builtin (b := .append) (xs := #[.tmp 32, .tmp 33]) rfl ?_); at_builtin; refine Kd.R_append_rows (Kd.int .u8) (w0 := W3) W3.heap.size rfl (.tmp 32) (.tmp 33) 22 5 (.int .u8 0) 1 rfl Try.underlying22 info5 rfl (by decide) (by omega) v1 [] l _ _ _ (fun _ => True) (fun _ => False) rfl rfl ?aO ?aR (fun _ _ h => h) (fun _ h => h.elim) ?aF ?aB ?aS ?aL ?_; (case aR => exact Kd.C_below HC3.out hb1); (case aB => exact hb1); (case aF => exact fun _ _ => trivial); (case aO => exact ho1); (case aS => exact below_size hb1); (case aL => simp; omega); intro v2 w3 ho2 hb2 hg2 hat2; obtain ⟨A2, c2, e2⟩ := Kd.R_slice ho2; subst e2; have HO := Lib.hid (show Kd.R (Kd.int .u8) 5 w3 W3.heap.size (fun _ => True) (.slice A2 l.length c2) l from ho2); have HB2 := Lib.hid hb2; clear ho1 hb1 hg1 hn1 ho2 hb2 hg2 hat2))
  have hS : w3.cell? ⟨w'.heap.size, 4, none⟩ = some (.int .i64 60) := (HB2.out.cell (by have := HW.out; simp only []; omega)).trans (by simp [World.cell?, HL1.out])
  have hL : w3.cell? ⟨w'.heap.size + 1, 4, none⟩ = some (.int .i64 49) := (HB2.out.cell (by have := HW.out; simp only []; omega)).trans (by simp [World.cell?, HL2.out])
  have hW : w3.cell? ⟨w'.heap.size + 1 + 1, 4, none⟩ = some (.int .i64 1) := (HB2.out.cell (by have := HW.out; simp only []; omega)).trans (by simp [World.cell?, HL3.out])
  go_wp2_with fail
  have hcx := (Kd.R_reads' HO.out).2.1
  by_cases hfit : p + q + 1 ≤ l.length
  · obtain ⟨g, rfl⟩ := R_some HO.out (by omega)
    refine (store_yes g c2 1 (p + q) l W3.heap.size (fun _ => True) 60 _ _ n4 w3 rfl HO.out hcx (by omega) r4.1 r4.2 (at40 p q hp40 hq30) hfit).mono ?_
    rintro e w4 ⟨rfl, hR4, hg4⟩
    have hgb : W3.heap.size ≤ g := Kd.R_base HO.out g rfl
    have hw4 : w4.cell? ⟨w'.heap.size + 1 + 1, 4, none⟩ = some (.int .i64 1) := cell_grown hg4 hW (by have := HW.out; simp; omega)
    have hl4 : w4.cell? ⟨w'.heap.size + 1, 4, none⟩ = some (.int .i64 49) := cell_grown hg4 hL (by have := HW.out; simp; omega)
    have HC4 := Lib.hid (show Kd.C (Kd.int .u8) w4 (some ⟨g, 0, none⟩) (stF l (p + q) n4 1).length (stF l (p + q) n4 1) from (Kd.R_reads' hR4).2.2)
    have HB4 := Lib.hid (pw_below_grown (below_step HB3.out HB2.out) (some g) (by have := below_size HB3.out; have := below_size HB2.out; omega) hg4 (fun k hk => by injection hk with hk; have := below_size HB3.out; omega))
    clear hR4 hg4 hS hL hW
    go_wp2_with fail
    have hld := load_u ⟨g, 0, none⟩ (stF l (p + q) n4 1) c2 1 49 ((p : Int) + q) 0 w4 rfl (fun _ => rfl) HC4.out (by rw [stF_length]; exact hcx) (stF_bytes hB _ _ _) (by omega) (by omega) (by rw [stF_length]; omega)
    rw [stF_length, show ((p : Int) + q + 0).toNat = p + q by omega, leP_st l (p + q) n4 r4.1 1 hfit] at hld
    refine hld.mono ?_
    rintro e w5 ⟨rfl, ⟨nd, rfl⟩⟩
    have hw5 : (w4.drewN nd).cell? ⟨w'.heap.size + 1 + 1, 4, none⟩ = some (.int .i64 1) := hw4
    clear hld hl4 hw4
    go_upto_region 18 with (fail)
    have HA := Lib.hid (Kd.C_drewN (Kd.C_below HC.out HB4.out) nd)
    have HX := Lib.hid (Kd.C_drewN HC4.out nd)
    have HB5 := Lib.hid (pw_below_drewN HB4.out nd)
    generalize w4.drewN nd = w5 at hw5 HA HX HB5 ⊢
    obtain ⟨x1, x2⟩ := cut_hi ((p : Int) + q) (by omega) HX.out (m := p + q) (by rw [stF_length]; omega) (by rw [stF_length]; exact hcx) l.length (stF_length _ _ _ _).symm _ (stF_take l (p + q) n4 1)
    obtain ⟨b1, b2⟩ := cut_hi ((p : Int) + q) (by omega) HA.out (m := p + q) (by omega) hcap l.length rfl _ rfl
    obtain ⟨B1, m1, c1, x3, x4⟩ := cut_lo ((p : Int) + q + 1) (by omega) HX.out (m := p + q + 1) (by rw [stF_length]; omega) (by rw [stF_length]; exact hcx) l.length (stF_length _ _ _ _).symm _ (stF_drop l (p + q) n4 1 1 (Nat.le_refl _))
    obtain ⟨B2, m2, c2', b3, b4⟩ := cut_lo ((p : Int) + q + 1) (by omega) HA.out (m := p + q + 1) (by omega) hcap l.length rfl _ rfl
    go_quiet (fail)
    go_wp2
    go_ret
    exact ⟨rfl, pw_below_drewN HB5.out _⟩
  · refine (store_no A2 l.length c2 1 60 _ _ n4 w3 rfl (by omega) (by rw [at40 p q hp40 hq30]; omega)).mono ?_
    rintro e w4 ⟨rfl, ⟨nd, rfl⟩⟩
    have HX := Lib.hid (Kd.C_drewN (Kd.R_reads' HO.out).2.2 nd)
    have HA := Lib.hid (Kd.C_drewN (Kd.C_below HC.out (below_step HB3.out HB2.out)) nd)
    have HB5 := Lib.hid (pw_below_drewN (below_step HB3.out HB2.out) nd)
    have hw5 : (w3.drewN nd).cell? ⟨w'.heap.size + 1 + 1, 4, none⟩ = some (.int .i64 1) := hW
    clear hS hL hW
    generalize w3.drewN nd = w5 at hw5 HA HX HB5 ⊢
    have cx := Kd.C_string (c := c2) Try.underlying22 Try.underlying5 Try.underlying9 HX.out
    have cb := Kd.C_string (c := cap) Try.underlying22 Try.underlying5 Try.underlying9 HA.out
    go_wp2
    go_ret
    exact ⟨rfl, HB5.out⟩
set_option maxRecDepth 100000 in
set_option maxHeartbeats 2000000 in
theorem mb5 (A : Option Addr) (cap : Nat) (l : List Int) (n1 n2 n3 n4 : Int) (p q : Nat) (W : World) (hp : n2 % 40 = p) (hq : n3 % 30 = q) (r1 : 0 ≤ n1 ∧ n1 ≤ 255) (r2 : 0 ≤ n2 ∧ n2 ≤ 255) (r3 : 0 ≤ n3 ∧ n3 ≤ 255) (r4 : 0 ≤ n4 ∧ n4 ≤ 18446744073709551615) (hj : n1 % 7 = 5)
    (hC : Kd.C (Kd.int .u8) W A l.length l) (hB : ByteL l) (hcap : l.length ≤ cap) (h60 : l.length ≤ 60) :
    Calls Try.prog 3 #[.slice A l.length cap, .int .u8 n1, .int .u8 n2, .int .u8 n3, .int .u64 n4] W fun e W' => e = .returned (.bool true) ∧ Below W.heap.size W W' := by
  have HC := Lib.hid hC
  have hp40 : p < 40 := by omega
  have hq30 : q < 30 := by omega
  clear hC
  go_enter Try.func3, Try.ntmps3
  go_wp2_with fail
  refine (begun14 _).mono ?_
  rintro e w' ⟨rfl, hb⟩
  have HC1 := Lib.hid (Kd.C_below HC.out hb)
  have HB1 := Lib.hid hb
  clear hb
  go_upto_region 9 with (fail)
  have hwd : w'.heap.size + 3 = ((((w'.alloc (Obj.cells #[.int .i64 54, .int .i64 55, .int .i64 58, .int .i64 59, .int .i64 60, .int .i64 61, .int .i64 62] 3)).alloc (Obj.cells #[.int .i64 40, .int .i64 41, .int .i64 45, .int .i64 47, .int .i64 49, .int .i64 51, .int .i64 53] 3)).alloc (Obj.cells #[.int .i64 4, .int .i64 8, .int .i64 1, .int .i64 2, .int .i64 1, .int .i64 2, .int .i64 4] 3))).heap.size := by (show _ = (((w'.heap.push _).push _).push _).size; simp)
  have hb3 : Below W.heap.size W (((w'.alloc (Obj.cells #[.int .i64 54, .int .i64 55, .int .i64 58, .int .i64 59, .int .i64 60, .int .i64 61, .int .i64 62] 3)).alloc (Obj.cells #[.int .i64 40, .int .i64 41, .int .i64 45, .int .i64 47, .int .i64 49, .int .i64 51, .int .i64 53] 3)).alloc (Obj.cells #[.int .i64 4, .int .i64 8, .int .i64 1, .int .i64 2, .int .i64 1, .int .i64 2, .int .i64 4] 3)) := (by repeat (first | exact HB1.out | apply below_alloc))
  have hc3 : Kd.C (Kd.int .u8) (((w'.alloc (Obj.cells #[.int .i64 54, .int .i64 55, .int .i64 58, .int .i64 59, .int .i64 60, .int .i64 61, .int .i64 62] 3)).alloc (Obj.cells #[.int .i64 40, .int .i64 41, .int .i64 45, .int .i64 47, .int .i64 49, .int .i64 51, .int .i64 53] 3)).alloc (Obj.cells #[.int .i64 4, .int .i64 8, .int .i64 1, .int .i64 2, .int .i64 1, .int .i64 2, .int .i64 4] 3)) A l.length l := Kd.C_below HC.out hb3
  obtain ⟨l1, l2, l3⟩ := lit3 w' (Obj.cells #[.int .i64 54, .int .i64 55, .int .i64 58, .int .i64 59, .int .i64 60, .int .i64 61, .int .i64 62] 3) (Obj.cells #[.int .i64 40, .int .i64 41, .int .i64 45, .int .i64 47, .int .i64 49, .int .i64 51, .int .i64 53] 3) (Obj.cells #[.int .i64 4, .int .i64 8, .int .i64 1, .int .i64 2, .int .i64 1, .int .i64 2, .int .i64 4] 3)
  have HB3 := Lib.hid hb3
  have HC3 := Lib.hid hc3
  have HL1 := Lib.hid l1
  have HL2 := Lib.hid l2
  have HL3 := Lib.hid l3
  have HW := Lib.hid hwd
  clear hb3 hc3 l1 l2 l3 hwd HB1 HC1
  generalize (((w'.alloc (Obj.cells #[.int .i64 54, .int .i64 55, .int .i64 58, .int .i64 59, .int .i64 60, .int .i64 61, .int .i64 62] 3)).alloc (Obj.cells #[.int .i64 40, .int .i64 41, .int .i64 45, .int .i64 47, .int .i64 49, .int .i64 51, .int .i64 53] 3)).alloc (Obj.cells #[.int .i64 4, .int .i64 8, .int .i64 1, .int .i64 2, .int .i64 1, .int .i64 2, .int .i64 4] 3)) = W3 at HB3 HC3 HL1 HL2 HL3 HW ⊢
  go_upto_region 10 with (first | ((with_reducible refine gate_dst (N := 32) rfl ?_); refine Kd.R_lit (Kd.int .u8) _ 5 ?hg (N := 32) ?hd (xs := ([] : List Int)) (inner := []) (ok := fun _ => True) (okp := fun _ => True) ?hr ?hp (fun _ hk => hk) trivial (Below.refl _ _) (Nat.le_refl _) (by simp) ?_; (case hd => rfl); (case hg => rfl); (case hr => first | (go_simp; done) | (go_simp; rfl)); (case hp => exact (Reps.none _ _)); intro v1 w2 ho1 hb1 hg1 hn1) | ((with_reducible refine gate_builtin (b := .append) (xs := #[.tmp 32, .tmp 33]) rfl ?_); at_builtin; refine Kd.R_append_rows (Kd.int .u8) (w0 := W3) W3.heap.size rfl (.tmp 32) (.tmp 33) 22 5 (.int .u8 0) 1 rfl Try.underlying22 info5 rfl (by decide) (by omega) v1 [] l _ _ _ (fun _ => True) (fun _ => False) rfl rfl ?aO ?aR (fun _ _ h => h) (fun _ h => h.elim) ?aF ?aB ?aS ?aL ?_; (case aR => exact Kd.C_below HC3.out hb1); (case aB => exact hb1); (case aF => exact fun _ _ => trivial); (case aO => exact ho1); (case aS => exact below_size hb1); (case aL => simp; omega); intro v2 w3 ho2 hb2 hg2 hat2; obtain ⟨A2, c2, e2⟩ := Kd.R_slice ho2; subst e2; have HO := Lib.hid (show Kd.R (Kd.int .u8) 5 w3 W3.heap.size (fun _ => True) (.slice A2 l.length c2) l from ho2); have HB2 := Lib.hid hb2; clear ho1 hb1 hg1 hn1 ho2 hb2 hg2 hat2))
  have hS : w3.cell? ⟨w'.heap.size, 5, none⟩ = some (.int .i64 61) := (HB2.out.cell (by have := HW.out; simp only []; omega)).trans (by simp [World.cell?, HL1.out])
  have hL : w3.cell? ⟨w'.heap.size + 1, 5, none⟩ = some (.int .i64 51) := (HB2.out.cell (by have := HW.out; simp only []; omega)).trans (by simp [World.cell?, HL2.out])
  have hW : w3.cell? ⟨w'.heap.size + 1 + 1, 5, none⟩ = some (.int .i64 2) := (HB2.out.cell (by have := HW.out; simp only []; omega)).trans (by simp [World.cell?, HL3.out])
  go_wp2_with fail
  have hcx := (Kd.R_reads' HO.out).2.1
  by_cases hfit : p + q + 2 ≤ l.length
  · obtain ⟨g, rfl⟩ := R_some HO.out (by omega)
    refine (store_yes g c2 2 (p + q) l W3.heap.size (fun _ => True) 61 _ _ n4 w3 rfl HO.out hcx (by omega) r4.1 r4.2 (at40 p q hp40 hq30) hfit).mono ?_
    rintro e w4 ⟨rfl, hR4, hg4⟩
    have hgb : W3.heap.size ≤ g := Kd.R_base HO.out g rfl
    have hw4 : w4.cell? ⟨w'.heap.size + 1 + 1, 5, none⟩ = some (.int .i64 2) := cell_grown hg4 hW (by have := HW.out; simp; omega)
    have hl4 : w4.cell? ⟨w'.heap.size + 1, 5, none⟩ = some (.int .i64 51) := cell_grown hg4 hL (by have := HW.out; simp; omega)
    have HC4 := Lib.hid (show Kd.C (Kd.int .u8) w4 (some ⟨g, 0, none⟩) (stF l (p + q) n4 2).length (stF l (p + q) n4 2) from (Kd.R_reads' hR4).2.2)
    have HB4 := Lib.hid (pw_below_grown (below_step HB3.out HB2.out) (some g) (by have := below_size HB3.out; have := below_size HB2.out; omega) hg4 (fun k hk => by injection hk with hk; have := below_size HB3.out; omega))
    clear hR4 hg4 hS hL hW
    go_wp2_with fail
    have hld := load_u ⟨g, 0, none⟩ (stF l (p + q) n4 2) c2 2 51 ((p : Int) + q) 0 w4 rfl (fun _ => rfl) HC4.out (by rw [stF_length]; exact hcx) (stF_bytes hB _ _ _) (by omega) (by omega) (by rw [stF_length]; omega)
    rw [stF_length, show ((p : Int) + q + 0).toNat = p + q by omega, leP_st l (p + q) n4 r4.1 2 hfit] at hld
    refine hld.mono ?_
    rintro e w5 ⟨rfl, ⟨nd, rfl⟩⟩
    have hw5 : (w4.drewN nd).cell? ⟨w'.heap.size + 1 + 1, 5, none⟩ = some (.int .i64 2) := hw4
    clear hld hl4 hw4
    go_upto_region 18 with (fail)
    have HA := Lib.hid (Kd.C_drewN (Kd.C_below HC.out HB4.out) nd)
    have HX := Lib.hid (Kd.C_drewN HC4.out nd)
    have HB5 := Lib.hid (pw_below_drewN HB4.out nd)
    generalize w4.drewN nd = w5 at hw5 HA HX HB5 ⊢
    obtain ⟨x1, x2⟩ := cut_hi ((p : Int) + q) (by omega) HX.out (m := p + q) (by rw [stF_length]; omega) (by rw [stF_length]; exact hcx) l.length (stF_length _ _ _ _).symm _ (stF_take l (p + q) n4 2)
    obtain ⟨b1, b2⟩ := cut_hi ((p : Int) + q) (by omega) HA.out (m := p + q) (by omega) hcap l.length rfl _ rfl
    obtain ⟨B1, m1, c1, x3, x4⟩ := cut_lo ((p : Int) + q + 2) (by omega) HX.out (m := p + q + 2) (by rw [stF_length]; omega) (by rw [stF_length]; exact hcx) l.length (stF_length _ _ _ _).symm _ (stF_drop l (p + q) n4 2 2 (Nat.le_refl _))
    obtain ⟨B2, m2, c2', b3, b4⟩ := cut_lo ((p : Int) + q + 2) (by omega) HA.out (m := p + q + 2) (by omega) hcap l.length rfl _ rfl
    go_quiet (fail)
    go_wp2
    go_ret
    exact ⟨rfl, pw_below_drewN HB5.out _⟩
  · refine (store_no A2 l.length c2 2 61 _ _ n4 w3 rfl (by omega) (by rw [at40 p q hp40 hq30]; omega)).mono ?_
    rintro e w4 ⟨rfl, ⟨nd, rfl⟩⟩
    have HX := Lib.hid (Kd.C_drewN (Kd.R_reads' HO.out).2.2 nd)
    have HA := Lib.hid (Kd.C_drewN (Kd.C_below HC.out (below_step HB3.out HB2.out)) nd)
    have HB5 := Lib.hid (pw_below_drewN (below_step HB3.out HB2.out) nd)
    have hw5 : (w3.drewN nd).cell? ⟨w'.heap.size + 1 + 1, 5, none⟩ = some (.int .i64 2) := hW
    clear hS hL hW
    generalize w3.drewN nd = w5 at hw5 HA HX HB5 ⊢
    have cx := Kd.C_string (c := c2) Try.underlying22 Try.underlying5 Try.underlying9 HX.out
    have cb := Kd.C_string (c := cap) Try.underlying22 Try.underlying5 Try.underlying9 HA.out
    go_wp2
    go_ret
    exact ⟨rfl, HB5.out⟩
set_option maxRecDepth 100000 in
set_option maxHeartbeats 2000000 in
theorem mb6 (A : Option Addr) (cap : Nat) (l : List Int) (n1 n2 n3 n4 : Int) (p q : Nat) (W : World) (hp : n2 % 40 = p) (hq : n3 % 30 = q) (r1 : 0 ≤ n1 ∧ n1 ≤ 255) (r2 : 0 ≤ n2 ∧ n2 ≤ 255) (r3 : 0 ≤ n3 ∧ n3 ≤ 255) (r4 : 0 ≤ n4 ∧ n4 ≤ 18446744073709551615) (hj : n1 % 7 = 6)
    (hC : Kd.C (Kd.int .u8) W A l.length l) (hB : ByteL l) (hcap : l.length ≤ cap) (h60 : l.length ≤ 60) :
    Calls Try.prog 3 #[.slice A l.length cap, .int .u8 n1, .int .u8 n2, .int .u8 n3, .int .u64 n4] W fun e W' => e = .returned (.bool true) ∧ Below W.heap.size W W' := by
  have HC := Lib.hid hC
  have hp40 : p < 40 := by omega
  have hq30 : q < 30 := by omega
  clear hC
  go_enter Try.func3, Try.ntmps3
  go_wp2_with fail
  refine (begun14 _).mono ?_
  rintro e w' ⟨rfl, hb⟩
  have HC1 := Lib.hid (Kd.C_below HC.out hb)
  have HB1 := Lib.hid hb
  clear hb
  go_upto_region 9 with (fail)
  have hwd : w'.heap.size + 3 = ((((w'.alloc (Obj.cells #[.int .i64 54, .int .i64 55, .int .i64 58, .int .i64 59, .int .i64 60, .int .i64 61, .int .i64 62] 3)).alloc (Obj.cells #[.int .i64 40, .int .i64 41, .int .i64 45, .int .i64 47, .int .i64 49, .int .i64 51, .int .i64 53] 3)).alloc (Obj.cells #[.int .i64 4, .int .i64 8, .int .i64 1, .int .i64 2, .int .i64 1, .int .i64 2, .int .i64 4] 3))).heap.size := by (show _ = (((w'.heap.push _).push _).push _).size; simp)
  have hb3 : Below W.heap.size W (((w'.alloc (Obj.cells #[.int .i64 54, .int .i64 55, .int .i64 58, .int .i64 59, .int .i64 60, .int .i64 61, .int .i64 62] 3)).alloc (Obj.cells #[.int .i64 40, .int .i64 41, .int .i64 45, .int .i64 47, .int .i64 49, .int .i64 51, .int .i64 53] 3)).alloc (Obj.cells #[.int .i64 4, .int .i64 8, .int .i64 1, .int .i64 2, .int .i64 1, .int .i64 2, .int .i64 4] 3)) := (by repeat (first | exact HB1.out | apply below_alloc))
  have hc3 : Kd.C (Kd.int .u8) (((w'.alloc (Obj.cells #[.int .i64 54, .int .i64 55, .int .i64 58, .int .i64 59, .int .i64 60, .int .i64 61, .int .i64 62] 3)).alloc (Obj.cells #[.int .i64 40, .int .i64 41, .int .i64 45, .int .i64 47, .int .i64 49, .int .i64 51, .int .i64 53] 3)).alloc (Obj.cells #[.int .i64 4, .int .i64 8, .int .i64 1, .int .i64 2, .int .i64 1, .int .i64 2, .int .i64 4] 3)) A l.length l := Kd.C_below HC.out hb3
  obtain ⟨l1, l2, l3⟩ := lit3 w' (Obj.cells #[.int .i64 54, .int .i64 55, .int .i64 58, .int .i64 59, .int .i64 60, .int .i64 61, .int .i64 62] 3) (Obj.cells #[.int .i64 40, .int .i64 41, .int .i64 45, .int .i64 47, .int .i64 49, .int .i64 51, .int .i64 53] 3) (Obj.cells #[.int .i64 4, .int .i64 8, .int .i64 1, .int .i64 2, .int .i64 1, .int .i64 2, .int .i64 4] 3)
  have HB3 := Lib.hid hb3
  have HC3 := Lib.hid hc3
  have HL1 := Lib.hid l1
  have HL2 := Lib.hid l2
  have HL3 := Lib.hid l3
  have HW := Lib.hid hwd
  clear hb3 hc3 l1 l2 l3 hwd HB1 HC1
  generalize (((w'.alloc (Obj.cells #[.int .i64 54, .int .i64 55, .int .i64 58, .int .i64 59, .int .i64 60, .int .i64 61, .int .i64 62] 3)).alloc (Obj.cells #[.int .i64 40, .int .i64 41, .int .i64 45, .int .i64 47, .int .i64 49, .int .i64 51, .int .i64 53] 3)).alloc (Obj.cells #[.int .i64 4, .int .i64 8, .int .i64 1, .int .i64 2, .int .i64 1, .int .i64 2, .int .i64 4] 3)) = W3 at HB3 HC3 HL1 HL2 HL3 HW ⊢
  go_upto_region 10 with (first | ((with_reducible refine gate_dst (N := 32) rfl ?_); refine Kd.R_lit (Kd.int .u8) _ 5 ?hg (N := 32) ?hd (xs := ([] : List Int)) (inner := []) (ok := fun _ => True) (okp := fun _ => True) ?hr ?hp (fun _ hk => hk) trivial (Below.refl _ _) (Nat.le_refl _) (by simp) ?_; (case hd => rfl); (case hg => rfl); (case hr => first | (go_simp; done) | (go_simp; rfl)); (case hp => exact (Reps.none _ _)); intro v1 w2 ho1 hb1 hg1 hn1) | ((with_reducible refine gate_builtin (b := .append) (xs := #[.tmp 32, .tmp 33]) rfl ?_); at_builtin; refine Kd.R_append_rows (Kd.int .u8) (w0 := W3) W3.heap.size rfl (.tmp 32) (.tmp 33) 22 5 (.int .u8 0) 1 rfl Try.underlying22 info5 rfl (by decide) (by omega) v1 [] l _ _ _ (fun _ => True) (fun _ => False) rfl rfl ?aO ?aR (fun _ _ h => h) (fun _ h => h.elim) ?aF ?aB ?aS ?aL ?_; (case aR => exact Kd.C_below HC3.out hb1); (case aB => exact hb1); (case aF => exact fun _ _ => trivial); (case aO => exact ho1); (case aS => exact below_size hb1); (case aL => simp; omega); intro v2 w3 ho2 hb2 hg2 hat2; obtain ⟨A2, c2, e2⟩ := Kd.R_slice ho2; subst e2; have HO := Lib.hid (show Kd.R (Kd.int .u8) 5 w3 W3.heap.size (fun _ => True) (.slice A2 l.length c2) l from ho2); have HB2 := Lib.hid hb2; clear ho1 hb1 hg1 hn1 ho2 hb2 hg2 hat2))
  have hS : w3.cell? ⟨w'.heap.size, 6, none⟩ = some (.int .i64 62) := (HB2.out.cell (by have := HW.out; simp only []; omega)).trans (by simp [World.cell?, HL1.out])
  have hL : w3.cell? ⟨w'.heap.size + 1, 6, none⟩ = some (.int .i64 53) := (HB2.out.cell (by have := HW.out; simp only []; omega)).trans (by simp [World.cell?, HL2.out])
  have hW : w3.cell? ⟨w'.heap.size + 1 + 1, 6, none⟩ = some (.int .i64 4) := (HB2.out.cell (by have := HW.out; simp only []; omega)).trans (by simp [World.cell?, HL3.out])
  go_wp2_with fail
  have hcx := (Kd.R_reads' HO.out).2.1
  by_cases hfit : p + q + 4 ≤ l.length
  · obtain ⟨g, rfl⟩ := R_some HO.out (by omega)
    refine (store_yes g c2 4 (p + q) l W3.heap.size (fun _ => True) 62 _ _ n4 w3 rfl HO.out hcx (by omega) r4.1 r4.2 (at40 p q hp40 hq30) hfit).mono ?_
    rintro e w4 ⟨rfl, hR4, hg4⟩
    have hgb : W3.heap.size ≤ g := Kd.R_base HO.out g rfl
    have hw4 : w4.cell? ⟨w'.heap.size + 1 + 1, 6, none⟩ = some (.int .i64 4) := cell_grown hg4 hW (by have := HW.out; simp; omega)
    have hl4 : w4.cell? ⟨w'.heap.size + 1, 6, none⟩ = some (.int .i64 53) := cell_grown hg4 hL (by have := HW.out; simp; omega)
    have HC4 := Lib.hid (show Kd.C (Kd.int .u8) w4 (some ⟨g, 0, none⟩) (stF l (p + q) n4 4).length (stF l (p + q) n4 4) from (Kd.R_reads' hR4).2.2)
    have HB4 := Lib.hid (pw_below_grown (below_step HB3.out HB2.out) (some g) (by have := below_size HB3.out; have := below_size HB2.out; omega) hg4 (fun k hk => by injection hk with hk; have := below_size HB3.out; omega))
    clear hR4 hg4 hS hL hW
    go_wp2_with fail
    have hld := load_u ⟨g, 0, none⟩ (stF l (p + q) n4 4) c2 4 53 ((p : Int) + q) 0 w4 rfl (fun _ => rfl) HC4.out (by rw [stF_length]; exact hcx) (stF_bytes hB _ _ _) (by omega) (by omega) (by rw [stF_length]; omega)
    rw [stF_length, show ((p : Int) + q + 0).toNat = p + q by omega, leP_st l (p + q) n4 r4.1 4 hfit] at hld
    refine hld.mono ?_
    rintro e w5 ⟨rfl, ⟨nd, rfl⟩⟩
    have hw5 : (w4.drewN nd).cell? ⟨w'.heap.size + 1 + 1, 6, none⟩ = some (.int .i64 4) := hw4
    clear hld hl4 hw4
    go_upto_region 18 with (fail)
    have HA := Lib.hid (Kd.C_drewN (Kd.C_below HC.out HB4.out) nd)
    have HX := Lib.hid (Kd.C_drewN HC4.out nd)
    have HB5 := Lib.hid (pw_below_drewN HB4.out nd)
    generalize w4.drewN nd = w5 at hw5 HA HX HB5 ⊢
    obtain ⟨x1, x2⟩ := cut_hi ((p : Int) + q) (by omega) HX.out (m := p + q) (by rw [stF_length]; omega) (by rw [stF_length]; exact hcx) l.length (stF_length _ _ _ _).symm _ (stF_take l (p + q) n4 4)
    obtain ⟨b1, b2⟩ := cut_hi ((p : Int) + q) (by omega) HA.out (m := p + q) (by omega) hcap l.length rfl _ rfl
    obtain ⟨B1, m1, c1, x3, x4⟩ := cut_lo ((p : Int) + q + 4) (by omega) HX.out (m := p + q + 4) (by rw [stF_length]; omega) (by rw [stF_length]; exact hcx) l.length (stF_length _ _ _ _).symm _ (stF_drop l (p + q) n4 4 4 (Nat.le_refl _))
    obtain ⟨B2, m2, c2', b3, b4⟩ := cut_lo ((p : Int) + q + 4) (by omega) HA.out (m := p + q + 4) (by omega) hcap l.length rfl _ rfl
    go_quiet (fail)
    go_wp2
    go_ret
    exact ⟨rfl, pw_below_drewN HB5.out _⟩
  · refine (store_no A2 l.length c2 4 62 _ _ n4 w3 rfl (by omega) (by rw [at40 p q hp40 hq30]; omega)).mono ?_
    rintro e w4 ⟨rfl, ⟨nd, rfl⟩⟩
    have HX := Lib.hid (Kd.C_drewN (Kd.R_reads' HO.out).2.2 nd)
    have HA := Lib.hid (Kd.C_drewN (Kd.C_below HC.out (below_step HB3.out HB2.out)) nd)
    have HB5 := Lib.hid (pw_below_drewN (below_step HB3.out HB2.out) nd)
    have hw5 : (w3.drewN nd).cell? ⟨w'.heap.size + 1 + 1, 6, none⟩ = some (.int .i64 4) := hW
    clear hS hL hW
    generalize w3.drewN nd = w5 at hw5 HA HX HB5 ⊢
    have cx := Kd.C_string (c := c2) Try.underlying22 Try.underlying5 Try.underlying9 HX.out
    have cb := Kd.C_string (c := cap) Try.underlying22 Try.underlying5 Try.underlying9 HA.out
    go_wp2
    go_ret
    exact ⟨rfl, HB5.out⟩
set_option maxHeartbeats 1000000 in
theorem mb_long (A : Option Addr) (cap : Nat) (l : List Int) (n1 n2 n3 n4 : Int) (W : World) (hC : Kd.C (Kd.int .u8) W A l.length l) (h60 : 60 < l.length) :
    Calls Try.prog 3 #[.slice A l.length cap, .int .u8 n1, .int .u8 n2, .int .u8 n3, .int .u64 n4] W fun e W' => e = .returned (.bool true) ∧ Below W.heap.size W W' := by
  have hmx : l.length ≤ 9223372036854775807 := hC.2.1
  clear hC
  go_enter Try.func3, Try.ntmps3
  go_wp2_with fail
  refine (begun14 _).mono ?_
  rintro e w' ⟨rfl, hb⟩
  have HB1 := Lib.hid hb
  clear hb
  go_wp2
  go_ret
  exact ⟨rfl, HB1.out⟩
theorem memBack_calls (A : Option Addr) (len cap : Nat) (zs : List Int) (n1 : Int) (w1 : (Lit.int .u8 n1).wf = true) (n2 : Int) (w2 : (Lit.int .u8 n2).wf = true) (n3 : Int) (w3 : (Lit.int .u8 n3).wf = true) (n4 : Int) (w4 : (Lit.int .u64 n4).wf = true) (W : World) (y : Go.Vm.IsRow .u8 W A len cap zs) :
    Calls Try.prog 3 #[.slice A len cap, .int .u8 n1, .int .u8 n2, .int .u8 n3, .int .u64 n4] W fun e W' => e = .returned (.bool true) ∧ Below W.heap.size W W' := by
  obtain ⟨hlen, hcap, hC, hwf⟩ := row_C y
  have r1 := (Lit.wf_int_iff _ _).1 w1
  have r2 := (Lit.wf_int_iff _ _).1 w2
  have r3 := (Lit.wf_int_iff _ _).1 w3
  have r4 := (Lit.wf_int_iff _ _).1 w4
  have m1 : IntKind.min .u8 = 0 := by decide
  have x1 : IntKind.max .u8 = 255 := by decide
  have m4 : IntKind.min .u64 = 0 := by decide
  have x4 : IntKind.max .u64 = 18446744073709551615 := by decide
  rw [m1, x1] at r1 r2 r3
  rw [m4, x4] at r4
  have hB : ByteL (zs.take len) := fun x hx => by
    have q := (Lit.wf_int_iff _ _).1 (hwf x hx)
    rw [m1, x1] at q; exact q
  clear hwf y w1 w2 w3 w4 m1 x1 m4 x4
  generalize zs.take len = l at hlen hC hB
  subst hlen
  by_cases h60 : l.length ≤ 60
  · obtain ⟨p, hp⟩ : ∃ p : Nat, n2 % 40 = p := ⟨(n2 % 40).toNat, by omega⟩
    obtain ⟨q, hq⟩ : ∃ q : Nat, n3 % 30 = q := ⟨(n3 % 30).toNat, by omega⟩
    have hj : n1 % 7 = 0 ∨ n1 % 7 = 1 ∨ n1 % 7 = 2 ∨ n1 % 7 = 3 ∨ n1 % 7 = 4 ∨ n1 % 7 = 5 ∨ n1 % 7 = 6 := by omega
    rcases hj with hj | hj | hj | hj | hj | hj | hj
    · exact mb0 A cap l n1 n2 n3 n4 p q W hp hq r1 r2 r3 r4 hj hC hB hcap h60
    · exact mb1 A cap l n1 n2 n3 n4 p q W hp hq r1 r2 r3 r4 hj hC hB hcap h60
    · exact mb2 A cap l n1 n2 n3 n4 p q W hp hq r1 r2 r3 r4 hj hC hB hcap h60
    · exact mb3 A cap l n1 n2 n3 n4 p q W hp hq r1 r2 r3 r4 hj hC hB hcap h60
    · exact mb4 A cap l n1 n2 n3 n4 p q W hp hq r1 r2 r3 r4 hj hC hB hcap h60
    · exact mb5 A cap l n1 n2 n3 n4 p q W hp hq r1 r2 r3 r4 hj hC hB hcap h60
    · exact mb6 A cap l n1 n2 n3 n4 p q W hp hq r1 r2 r3 r4 hj hC hB hcap h60
  · exact mb_long A cap l n1 n2 n3 n4 W hC (by omega)
end Go.Proofs.Ytfjnhdbbjggkmaa.Mem
