/- The law TableAll: its call answers true. -/
import Derived.Test.YtfjnhdbbjggkmaaAllW
import Derived.Deep.QuietTactic
import Derived.BigQuiet
import Derived.Lib.Hide
set_option linter.unusedVariables false
set_option linter.unusedSimpArgs false
namespace Go.Proofs.Ytfjnhdbbjggkmaa.Mem
open Go.RowKit Go.Proofs.YtfjnhdbbjggkmaaW.PrintWords Go.Proofs.YtfjnhdbbjggkmaaW.PrintLast Go.Proofs.YtfjnhdbbjggkmaaW.PrintMore Go.Proofs.Ytfjnhdbbjggkmaa.PTableAll
set_option maxRecDepth 100000 in
set_option maxHeartbeats 4000000 in
theorem ta_tff (A B : Option Addr) (c1 c2 : Nat) (l m : List Int) (d s n v : Int) (D S K : Nat) (W : World) (r1 : 0 ≤ d ∧ d ≤ 18446744073709551615) (r2 : 0 ≤ s ∧ s ≤ 18446744073709551615) (r3 : 0 ≤ n ∧ n ≤ 18446744073709551615) (r4 : 0 ≤ v ∧ v ≤ 18446744073709551615)
    (hd : d % 4294967296 = D) (hs : s % 4294967296 = S) (hn : n % 4294967296 = K) (bd : Go.bits .and .u64 d 4294967295 = D) (bs : Go.bits .and .u64 s 4294967295 = S) (bn : Go.bits .and .u64 n 4294967295 = K) (hl20 : l.length ≤ 20) (hm20 : m.length ≤ 20)
    (hi : D < l.length) (hf : l.length < D + K) (hf2 : m.length < S + K)
    (hC : Kd.C (Kd.int .u64) W A l.length l) (hM : Kd.C (Kd.int .u64) W B m.length m) (hc1 : l.length ≤ c1) (hc2 : m.length ≤ c2) :
    Calls Try.prog 8 #[.slice A l.length c1, .slice B m.length c2, .int .u64 d, .int .u64 s, .int .u64 n, .int .u64 v] W fun e W' => e = .returned (.bool true) ∧ Below W.heap.size W W' := by
  have HC := Lib.hid hC
  have HM := Lib.hid hM
  clear hC hM
  have i1 : decide ((D : Int) < (l.length : Int)) = true := decide_eq_true (by omega)
  have i2 : decide (D < l.length) = true := decide_eq_true (by omega)
  have i3 : decide (D + K ≤ l.length) = false := decide_eq_false (by omega)
  have i4 : decide (S + K ≤ m.length) = false := decide_eq_false (by omega)
  go_enter Try.func8, Try.ntmps8
  go_wp2_with fail
  refine (begun15 _).mono ?_
  rintro e w0 ⟨rfl, hb⟩
  have HB0 := Lib.hid hb
  clear hb
  go_wp2_with fail
  refine (get_yes A c1 l d D _ (Kd.C_below HC.out HB0.out) hc1 bd hi).mono ?_
  rintro e wg ⟨rfl, ⟨ng, rfl⟩⟩
  have HB1 := Lib.hid (pw_below_drewN HB0.out ng)
  generalize w0.drewN ng = w1 at HB1 ⊢
  obtain ⟨ad, rfl, hcell⟩ := Kd.at_int (Kd.C_below HC.out HB1.out) (D : Int) (by omega) (by omega)
  rw [Int.toNat_natCast] at hcell
  go_upto_region 11 with (first | ((with_reducible refine gate_dst (N := 84) rfl ?_); refine Kd.R_lit (Kd.int .u64) _ 23 ?hg (N := 84) ?hd (xs := ([] : List Int)) (inner := []) (ok := fun _ => True) (okp := fun _ => True) ?hr ?hp (fun _ hk => hk) trivial (Below.refl _ _) (Nat.le_refl _) (by simp) ?_; (case hd => rfl); (case hg => rfl); (case hr => first | (go_simp; done) | (go_simp; rfl)); (case hp => exact (Reps.none _ _)); intro vl2 wl2 hol2 hbl2 hgl2 hnl2) | ((with_reducible refine gate_builtin (b := .append) (xs := #[.tmp 84, .tmp 85]) rfl ?_); at_builtin; refine Kd.R_append_rows (Kd.int .u64) (w0 := w1) w1.heap.size rfl (.tmp 84) (.tmp 85) 42 23 (.int .u64 0) 8 rfl Try.underlying42 info23 rfl (by decide) (by omega) vl2 [] l _ _ _ (fun _ => True) (fun _ => False) rfl rfl ?aO ?aR (fun _ _ h => h) (fun _ h => h.elim) ?aF ?aB ?aS ?aL ?_; (case aR => exact Kd.C_below (Kd.C_below HC.out HB1.out) hbl2); (case aB => exact hbl2); (case aF => exact fun _ _ => trivial); (case aO => exact hol2); (case aS => exact below_size hbl2); (case aL => simp; omega); intro v2 w2 ho2 hb2 hg2 hat2; have hso : ∃ b, v2.ownBlock = some b := (by obtain ⟨b0, hb0, _⟩ := hnl2; rcases hat2 with h | ⟨b2, h, _⟩; exact ⟨b0, h.trans hb0⟩; exact ⟨b2, h⟩); obtain ⟨Ax, ca, e2⟩ := Kd.R_slice ho2; subst e2; obtain ⟨bx, hbx⟩ := hso; obtain ⟨ga, eg⟩ := R_someB ho2 hbx; subst eg; have Ha2 := Lib.hid (show Kd.R (Kd.int .u64) 23 w2 w1.heap.size (fun _ => True) (.slice (some ⟨ga, 0, none⟩) l.length ca) l from ho2); have hlea := Lib.hid (below_size HB1.out); have HB2 := Lib.hid (below_step HB1.out hb2); clear hol2 hbl2 hgl2 hnl2 ho2 hb2 hg2 hat2 hbx) | ((with_reducible refine gate_dst (N := 87) rfl ?_); refine Kd.R_lit (Kd.int .u64) _ 23 ?hg (N := 87) ?hd (xs := ([] : List Int)) (inner := []) (ok := fun _ => True) (okp := fun _ => True) ?hr ?hp (fun _ hk => hk) trivial (Below.refl _ _) (Nat.le_refl _) (by simp) ?_; (case hd => rfl); (case hg => rfl); (case hr => first | (go_simp; done) | (go_simp; rfl)); (case hp => exact (Reps.none _ _)); intro vl3 wl3 hol3 hbl3 hgl3 hnl3) | ((with_reducible refine gate_builtin (b := .append) (xs := #[.tmp 87, .tmp 88]) rfl ?_); at_builtin; refine Kd.R_append_rows (Kd.int .u64) (w0 := w2) w2.heap.size rfl (.tmp 87) (.tmp 88) 42 23 (.int .u64 0) 8 rfl Try.underlying42 info23 rfl (by decide) (by omega) vl3 [] l _ _ _ (fun _ => True) (fun _ => False) rfl rfl ?aO ?aR (fun _ _ h => h) (fun _ h => h.elim) ?aF ?aB ?aS ?aL ?_; (case aR => exact Kd.C_below (Kd.C_below HC.out HB2.out) hbl3); (case aB => exact hbl3); (case aF => exact fun _ _ => trivial); (case aO => exact hol3); (case aS => exact below_size hbl3); (case aL => simp; omega); intro v2 w3 ho2 hb2 hg2 hat2; have hso : ∃ b, v2.ownBlock = some b := (by obtain ⟨b0, hb0, _⟩ := hnl3; rcases hat2 with h | ⟨b2, h, _⟩; exact ⟨b0, h.trans hb0⟩; exact ⟨b2, h⟩); obtain ⟨Ax, cb, e2⟩ := Kd.R_slice ho2; subst e2; obtain ⟨bx, hbx⟩ := hso; obtain ⟨gb, eg⟩ := R_someB ho2 hbx; subst eg; have Hb3 := Lib.hid (show Kd.R (Kd.int .u64) 23 w3 w2.heap.size (fun _ => True) (.slice (some ⟨gb, 0, none⟩) l.length cb) l from ho2); have hleb := Lib.hid (below_size HB2.out); have HB3 := Lib.hid (below_step HB2.out hb2); have Ha3 := Lib.hid (R_carry Ha2.out hb2); have neab := Lib.hid (show ga ≠ gb from by have := R_lt2 Ha2.out; have := Kd.R_base Hb3.out gb rfl; omega); clear hol3 hbl3 hgl3 hnl3 ho2 hb2 hg2 hat2 hbx) | ((with_reducible refine gate_dst (N := 90) rfl ?_); refine Kd.R_lit (Kd.int .u64) _ 23 ?hg (N := 90) ?hd (xs := ([] : List Int)) (inner := []) (ok := fun _ => True) (okp := fun _ => True) ?hr ?hp (fun _ hk => hk) trivial (Below.refl _ _) (Nat.le_refl _) (by simp) ?_; (case hd => rfl); (case hg => rfl); (case hr => first | (go_simp; done) | (go_simp; rfl)); (case hp => exact (Reps.none _ _)); intro vl4 wl4 hol4 hbl4 hgl4 hnl4) | ((with_reducible refine gate_builtin (b := .append) (xs := #[.tmp 90, .tmp 91]) rfl ?_); at_builtin; refine Kd.R_append_rows (Kd.int .u64) (w0 := w3) w3.heap.size rfl (.tmp 90) (.tmp 91) 42 23 (.int .u64 0) 8 rfl Try.underlying42 info23 rfl (by decide) (by omega) vl4 [] l _ _ _ (fun _ => True) (fun _ => False) rfl rfl ?aO ?aR (fun _ _ h => h) (fun _ h => h.elim) ?aF ?aB ?aS ?aL ?_; (case aR => exact Kd.C_below (Kd.C_below HC.out HB3.out) hbl4); (case aB => exact hbl4); (case aF => exact fun _ _ => trivial); (case aO => exact hol4); (case aS => exact below_size hbl4); (case aL => simp; omega); intro v2 w4 ho2 hb2 hg2 hat2; have hso : ∃ b, v2.ownBlock = some b := (by obtain ⟨b0, hb0, _⟩ := hnl4; rcases hat2 with h | ⟨b2, h, _⟩; exact ⟨b0, h.trans hb0⟩; exact ⟨b2, h⟩); obtain ⟨Ax, cc, e2⟩ := Kd.R_slice ho2; subst e2; obtain ⟨bx, hbx⟩ := hso; obtain ⟨gc, eg⟩ := R_someB ho2 hbx; subst eg; have Hc4 := Lib.hid (show Kd.R (Kd.int .u64) 23 w4 w3.heap.size (fun _ => True) (.slice (some ⟨gc, 0, none⟩) l.length cc) l from ho2); have hlec := Lib.hid (below_size HB3.out); have HB4 := Lib.hid (below_step HB3.out hb2); have Ha4 := Lib.hid (R_carry Ha3.out hb2); have neac := Lib.hid (show ga ≠ gc from by have := R_lt2 Ha3.out; have := Kd.R_base Hc4.out gc rfl; omega); have Hb4 := Lib.hid (R_carry Hb3.out hb2); have nebc := Lib.hid (show gb ≠ gc from by have := R_lt2 Hb3.out; have := Kd.R_base Hc4.out gc rfl; omega); clear hol4 hbl4 hgl4 hnl4 ho2 hb2 hg2 hat2 hbx))
  clear hcell
  go_wp2_with fail
  refine (set_c ga ca l _ _ d v D true _ Ha4.out bd i2).mono ?_
  rintro e ws ⟨rfl, hRs, hGs⟩
  have HB5 := Lib.hid (below_own HB4.out Ha4.out hlea.out hGs)
  have Ha5 := Lib.hid hRs
  have Hb5 := Lib.hid (R_other Hb4.out hGs (by first | exact neba.out | exact neab.out.symm))
  have Hc5 := Lib.hid (R_other Hc4.out hGs (by first | exact neca.out | exact neac.out.symm))
  clear hRs hGs
  dsimp only [okOr, cond_true, cond_false]
  go_upto_region 13 with (first | ((with_reducible refine gate_dst (N := 97) rfl ?_); refine Kd.R_lit (Kd.int .u64) _ 23 ?hg (N := 97) ?hd (xs := ([] : List Int)) (inner := []) (ok := fun _ => True) (okp := fun _ => True) ?hr ?hp (fun _ hk => hk) trivial (Below.refl _ _) (Nat.le_refl _) (by simp) ?_; (case hd => rfl); (case hg => rfl); (case hr => first | (go_simp; done) | (go_simp; rfl)); (case hp => exact (Reps.none _ _)); intro vl6 wl6 hol6 hbl6 hgl6 hnl6) | ((with_reducible refine gate_builtin (b := .append) (xs := #[.tmp 97, .tmp 98]) rfl ?_); at_builtin; refine Kd.R_append_rows (Kd.int .u64) (w0 := ws) ws.heap.size rfl (.tmp 97) (.tmp 98) 42 23 (.int .u64 0) 8 rfl Try.underlying42 info23 rfl (by decide) (by omega) vl6 [] l _ _ _ (fun _ => True) (fun _ => False) rfl rfl ?aO ?aR (fun _ _ h => h) (fun _ h => h.elim) ?aF ?aB ?aS ?aL ?_; (case aR => exact Kd.C_below (Kd.C_below HC.out HB5.out) hbl6); (case aB => exact hbl6); (case aF => exact fun _ _ => trivial); (case aO => exact hol6); (case aS => exact below_size hbl6); (case aL => simp; omega); intro v2 w6 ho2 hb2 hg2 hat2; have hso : ∃ b, v2.ownBlock = some b := (by obtain ⟨b0, hb0, _⟩ := hnl6; rcases hat2 with h | ⟨b2, h, _⟩; exact ⟨b0, h.trans hb0⟩; exact ⟨b2, h⟩); obtain ⟨Ax, ct, e2⟩ := Kd.R_slice ho2; subst e2; obtain ⟨bx, hbx⟩ := hso; obtain ⟨gt, eg⟩ := R_someB ho2 hbx; subst eg; have Ht6 := Lib.hid (show Kd.R (Kd.int .u64) 23 w6 ws.heap.size (fun _ => True) (.slice (some ⟨gt, 0, none⟩) l.length ct) l from ho2); have hlet := Lib.hid (below_size HB5.out); have HB6 := Lib.hid (below_step HB5.out hb2); have Ha6 := Lib.hid (R_carry Ha5.out hb2); have neat := Lib.hid (show ga ≠ gt from by have := R_lt2 Ha5.out; have := Kd.R_base Ht6.out gt rfl; omega); have Hb6 := Lib.hid (R_carry Hb5.out hb2); have nebt := Lib.hid (show gb ≠ gt from by have := R_lt2 Hb5.out; have := Kd.R_base Ht6.out gt rfl; omega); have Hc6 := Lib.hid (R_carry Hc5.out hb2); have nect := Lib.hid (show gc ≠ gt from by have := R_lt2 Hc5.out; have := Kd.R_base Ht6.out gt rfl; omega); clear hol6 hbl6 hgl6 hnl6 ho2 hb2 hg2 hat2 hbx))
  obtain ⟨hce, hfz⟩ := Kd.R_celln 0 Ht6.out (D : Int) (by omega) (by omega)
  rw [Int.toNat_natCast] at hce hfz
  have hput := Kd.R_putg Ht6.out (D : Int) v
  rw [Int.toNat_natCast] at hput
  have HPU := Lib.hid hput
  clear hput
  go_upto_region 15 with (fail)
  clear hce hfz
  generalize w6.setCell ⟨gt, D, none⟩ (.int .u64 v) = wp at HPU ⊢
  have HB7 := Lib.hid (below_own HB6.out Ht6.out hlet.out HPU.out.2)
  have Ha7 := Lib.hid (R_other Ha6.out HPU.out.2 (by first | exact neat.out | exact neta.out.symm))
  have Hb7 := Lib.hid (R_other Hb6.out HPU.out.2 (by first | exact nebt.out | exact netb.out.symm))
  have Hc7 := Lib.hid (R_other Hc6.out HPU.out.2 (by first | exact nect.out | exact netc.out.symm))
  have Ht7 := Lib.hid HPU.out.1
  go_wp2_with fail
  have ra := Kd.R_reads' Ha7.out
  have rt := Kd.R_reads' Ht7.out
  refine (same_c _ _ ca ct l.length (l.set D v) _ (List.length_set ..) (by omega) ra.2.2 ra.2.1 rt.2.2 rt.2.1).mono ?_
  rintro e wq ⟨rfl, ⟨nq1, rfl⟩⟩
  clear ra rt
  have HB8 := Lib.hid (pw_below_drewN HB7.out nq1)
  have Hb8 := Lib.hid (Kd.R_drewN Hb7.out nq1)
  have Hc8 := Lib.hid (Kd.R_drewN Hc7.out nq1)
  generalize wp.drewN nq1 = w8 at HB8 Hb8 Hc8 ⊢
  go_wp2_with fail
  refine (fitsr_c l.length D K _ (by omega) false i3).mono ?_
  rintro e wf ⟨rfl, ⟨nf, rfl⟩⟩
  have HB9 := Lib.hid (pw_below_drewN HB8.out nf)
  have Hb9 := Lib.hid (Kd.R_drewN Hb8.out nf)
  have Hc9 := Lib.hid (Kd.R_drewN Hc8.out nf)
  generalize w8.drewN nf = w9 at HB9 Hb9 Hc9 ⊢
  go_wp2_with fail
  refine (fill_c gb cb l _ _ d v n D K false _ Hb9.out bd bn i3).mono ?_
  rintro e wz ⟨rfl, hRz, hGz⟩
  have HB10 := Lib.hid (below_own HB9.out Hb9.out hleb.out hGz)
  have Hb10 := Lib.hid hRz
  have Hc10 := Lib.hid (R_other Hc9.out hGz (by first | exact necb.out | exact nebc.out.symm))
  clear hRz hGz
  dsimp only [okOr, cond_true, cond_false]
  go_upto_region 20 with (first | ((with_reducible refine gate_dst (N := 125) rfl ?_); refine Kd.R_lit (Kd.int .u64) _ 23 ?hg (N := 125) ?hd (xs := ([] : List Int)) (inner := []) (ok := fun _ => True) (okp := fun _ => True) ?hr ?hp (fun _ hk => hk) trivial (Below.refl _ _) (Nat.le_refl _) (by simp) ?_; (case hd => rfl); (case hg => rfl); (case hr => first | (go_simp; done) | (go_simp; rfl)); (case hp => exact (Reps.none _ _)); intro vl11 wl11 hol11 hbl11 hgl11 hnl11) | ((with_reducible refine gate_builtin (b := .append) (xs := #[.tmp 125, .tmp 126]) rfl ?_); at_builtin; refine Kd.R_append_rows (Kd.int .u64) (w0 := wz) wz.heap.size rfl (.tmp 125) (.tmp 126) 42 23 (.int .u64 0) 8 rfl Try.underlying42 info23 rfl (by decide) (by omega) vl11 [] l _ _ _ (fun _ => True) (fun _ => False) rfl rfl ?aO ?aR (fun _ _ h => h) (fun _ h => h.elim) ?aF ?aB ?aS ?aL ?_; (case aR => exact Kd.C_below (Kd.C_below HC.out HB10.out) hbl11); (case aB => exact hbl11); (case aF => exact fun _ _ => trivial); (case aO => exact hol11); (case aS => exact below_size hbl11); (case aL => simp; omega); intro v2 w11 ho2 hb2 hg2 hat2; have hso : ∃ b, v2.ownBlock = some b := (by obtain ⟨b0, hb0, _⟩ := hnl11; rcases hat2 with h | ⟨b2, h, _⟩; exact ⟨b0, h.trans hb0⟩; exact ⟨b2, h⟩); obtain ⟨Ax, cu, e2⟩ := Kd.R_slice ho2; subst e2; obtain ⟨bx, hbx⟩ := hso; obtain ⟨gu, eg⟩ := R_someB ho2 hbx; subst eg; have Hu11 := Lib.hid (show Kd.R (Kd.int .u64) 23 w11 wz.heap.size (fun _ => True) (.slice (some ⟨gu, 0, none⟩) l.length cu) l from ho2); have hleu := Lib.hid (below_size HB10.out); have HB11 := Lib.hid (below_step HB10.out hb2); have Hb11 := Lib.hid (R_carry Hb10.out hb2); have nebu := Lib.hid (show gb ≠ gu from by have := R_lt2 Hb10.out; have := Kd.R_base Hu11.out gu rfl; omega); have Hc11 := Lib.hid (R_carry Hc10.out hb2); have necu := Lib.hid (show gc ≠ gu from by have := R_lt2 Hc10.out; have := Kd.R_base Hu11.out gu rfl; omega); clear hol11 hbl11 hgl11 hnl11 ho2 hb2 hg2 hat2 hbx))
  go_wp2_with fail
  go_loopw [26] (fun i wru => ∃ j : Nat, j ≤ cnt false K ∧ i = .int .u64 j ∧ Kd.R (Kd.int .u64) 23 wru wz.heap.size (fun _ => True) (.slice (some ⟨gu, 0, none⟩) l.length cu) (filY l D v j) ∧ w11.grownBy wru (some gu)) (fun i _ => K - (intOf i).toNat)
  case atStart =>
    refine ⟨0, Nat.zero_le _, rfl, ?_, World.grownBy.refl _ _⟩
    rw [filY_0]
    exact Hu11.out
  case round =>
    obtain ⟨wru, rfl⟩ : ∃ x, x = wr := ⟨wr, rfl⟩
    obtain ⟨j, hj, rfl, hRk, hg⟩ := hrel
    have HK := Lib.hid hRk
    have HG := Lib.hid hg
    clear hRk hg
    obtain rfl : j = 0 := by have : j ≤ 0 := hj; omega
    clear hj
    have HB12 := Lib.hid (below_own HB11.out Hu11.out hleu.out HG.out)
    have Hb12 := Lib.hid (R_other Hb11.out HG.out (by first | exact nebu.out | exact neub.out.symm))
    have Hc12 := Lib.hid (R_other Hc11.out HG.out (by first | exact necu.out | exact neuc.out.symm))
    have Hu12 := Lib.hid HK.out
    go_wp2_with fail
    have ra := Kd.R_reads' Hb12.out
    have rt := Kd.R_reads' Hu12.out
    refine (same_c _ _ cb cu l.length (filY l D v 0) _ (by rw [filY_0]) (by omega) ra.2.2 ra.2.1 rt.2.2 rt.2.1).mono ?_
    rintro e wq13 ⟨rfl, ⟨nq13, rfl⟩⟩
    clear ra rt
    have HB14 := Lib.hid (pw_below_drewN HB12.out nq13)
    have Hc14 := Lib.hid (Kd.R_drewN Hc12.out nq13)
    generalize wru.drewN nq13 = w14 at HB14 Hc14 ⊢
    go_upto_region 27 with (first | ((with_reducible refine gate_dst (N := 152) rfl ?_); refine Kd.R_lit (Kd.int .u64) _ 23 ?hg (N := 152) ?hd (xs := ([] : List Int)) (inner := []) (ok := fun _ => True) (okp := fun _ => True) ?hr ?hp (fun _ hk => hk) trivial (Below.refl _ _) (Nat.le_refl _) (by simp) ?_; (case hd => rfl); (case hg => rfl); (case hr => first | (go_simp; done) | (go_simp; rfl)); (case hp => exact (Reps.none _ _)); intro vl15 wl15 hol15 hbl15 hgl15 hnl15) | ((with_reducible refine gate_builtin (b := .append) (xs := #[.tmp 152, .tmp 153]) rfl ?_); at_builtin; refine Kd.R_append_rows (Kd.int .u64) (w0 := w14) w14.heap.size rfl (.tmp 152) (.tmp 153) 42 23 (.int .u64 0) 8 rfl Try.underlying42 info23 rfl (by decide) (by omega) vl15 [] m _ _ _ (fun _ => True) (fun _ => False) rfl rfl ?aO ?aR (fun _ _ h => h) (fun _ h => h.elim) ?aF ?aB ?aS ?aL ?_; (case aR => exact Kd.C_below (Kd.C_below HM.out HB14.out) hbl15); (case aB => exact hbl15); (case aF => exact fun _ _ => trivial); (case aO => exact hol15); (case aS => exact below_size hbl15); (case aL => simp; omega); intro v2 w15 ho2 hb2 hg2 hat2; have hso : ∃ b, v2.ownBlock = some b := (by obtain ⟨b0, hb0, _⟩ := hnl15; rcases hat2 with h | ⟨b2, h, _⟩; exact ⟨b0, h.trans hb0⟩; exact ⟨b2, h⟩); obtain ⟨Ax, cq, e2⟩ := Kd.R_slice ho2; subst e2; obtain ⟨bx, hbx⟩ := hso; obtain ⟨gq, eg⟩ := R_someB ho2 hbx; subst eg; have Hq15 := Lib.hid (show Kd.R (Kd.int .u64) 23 w15 w14.heap.size (fun _ => True) (.slice (some ⟨gq, 0, none⟩) m.length cq) m from ho2); have hleq := Lib.hid (below_size HB14.out); have HB15 := Lib.hid (below_step HB14.out hb2); have Hc15 := Lib.hid (R_carry Hc14.out hb2); have necq := Lib.hid (show gc ≠ gq from by have := R_lt2 Hc14.out; have := Kd.R_base Hq15.out gq rfl; omega); clear hol15 hbl15 hgl15 hnl15 ho2 hb2 hg2 hat2 hbx))
    go_wp2_with fail
    have i5 : (decide (D + K ≤ l.length) && decide (S + K ≤ m.length)) = false := by rw [i3, i4]; rfl
    have rq := Kd.R_reads' Hq15.out
    refine (copy_c gc cc cq l m _ _ _ d s n D S K false _ Hc15.out rq.2.2 rq.2.1 bd bs bn i5).mono ?_
    rintro e wy ⟨rfl, hRy, hGy⟩
    have HB16 := Lib.hid (below_own HB15.out Hc15.out hlec.out hGy)
    have Hc16 := Lib.hid hRy
    have Hq16 := Lib.hid (R_other Hq15.out hGy (by first | exact neqc.out | exact necq.out.symm))
    clear hRy hGy rq i5
    dsimp only [okOr, cond_true, cond_false]
    go_upto_region 30 with (first | ((with_reducible refine gate_dst (N := 169) rfl ?_); refine Kd.R_lit (Kd.int .u64) _ 23 ?hg (N := 169) ?hd (xs := ([] : List Int)) (inner := []) (ok := fun _ => True) (okp := fun _ => True) ?hr ?hp (fun _ hk => hk) trivial (Below.refl _ _) (Nat.le_refl _) (by simp) ?_; (case hd => rfl); (case hg => rfl); (case hr => first | (go_simp; done) | (go_simp; rfl)); (case hp => exact (Reps.none _ _)); intro vl17 wl17 hol17 hbl17 hgl17 hnl17) | ((with_reducible refine gate_builtin (b := .append) (xs := #[.tmp 169, .tmp 170]) rfl ?_); at_builtin; refine Kd.R_append_rows (Kd.int .u64) (w0 := wy) wy.heap.size rfl (.tmp 169) (.tmp 170) 42 23 (.int .u64 0) 8 rfl Try.underlying42 info23 rfl (by decide) (by omega) vl17 [] l _ _ _ (fun _ => True) (fun _ => False) rfl rfl ?aO ?aR (fun _ _ h => h) (fun _ h => h.elim) ?aF ?aB ?aS ?aL ?_; (case aR => exact Kd.C_below (Kd.C_below HC.out HB16.out) hbl17); (case aB => exact hbl17); (case aF => exact fun _ _ => trivial); (case aO => exact hol17); (case aS => exact below_size hbl17); (case aL => simp; omega); intro v2 w17 ho2 hb2 hg2 hat2; have hso : ∃ b, v2.ownBlock = some b := (by obtain ⟨b0, hb0, _⟩ := hnl17; rcases hat2 with h | ⟨b2, h, _⟩; exact ⟨b0, h.trans hb0⟩; exact ⟨b2, h⟩); obtain ⟨Ax, cz, e2⟩ := Kd.R_slice ho2; subst e2; obtain ⟨bx, hbx⟩ := hso; obtain ⟨gz, eg⟩ := R_someB ho2 hbx; subst eg; have Hz17 := Lib.hid (show Kd.R (Kd.int .u64) 23 w17 wy.heap.size (fun _ => True) (.slice (some ⟨gz, 0, none⟩) l.length cz) l from ho2); have hlez := Lib.hid (below_size HB16.out); have HB17 := Lib.hid (below_step HB16.out hb2); have Hc17 := Lib.hid (R_carry Hc16.out hb2); have necz := Lib.hid (show gc ≠ gz from by have := R_lt2 Hc16.out; have := Kd.R_base Hz17.out gz rfl; omega); have Hq17 := Lib.hid (R_carry Hq16.out hb2); have neqz := Lib.hid (show gq ≠ gz from by have := R_lt2 Hq16.out; have := Kd.R_base Hz17.out gz rfl; omega); clear hol17 hbl17 hgl17 hnl17 ho2 hb2 hg2 hat2 hbx))
    go_wp2_with fail
    go_loopw [29] (fun i wrz => ∃ j : Nat, j ≤ cnt false K ∧ i = .int .u64 j ∧ Kd.R (Kd.int .u64) 23 wrz wy.heap.size (fun _ => True) (.slice (some ⟨gz, 0, none⟩) l.length cz) (copY l m D S j) ∧ w17.grownBy wrz (some gz)) (fun i _ => K - (intOf i).toNat)
    case atStart =>
      refine ⟨0, Nat.zero_le _, rfl, ?_, World.grownBy.refl _ _⟩
      rw [copY_0]
      exact Hz17.out
    case round =>
      obtain ⟨wrz, rfl⟩ : ∃ x, x = wr := ⟨wr, rfl⟩
      obtain ⟨j, hj, rfl, hRk, hg⟩ := hrel
      have HK := Lib.hid hRk
      have HG := Lib.hid hg
      clear hRk hg
      obtain rfl : j = 0 := by have : j ≤ 0 := hj; omega
      clear hj
      have HB18 := Lib.hid (below_own HB17.out Hz17.out hlez.out HG.out)
      have Hc18 := Lib.hid (R_other Hc17.out HG.out (by first | exact necz.out | exact nezc.out.symm))
      have Hq18 := Lib.hid (R_other Hq17.out HG.out (by first | exact neqz.out | exact nezq.out.symm))
      have Hz18 := Lib.hid HK.out
      go_wp2_with fail
      have ra := Kd.R_reads' Hc18.out
      have rt := Kd.R_reads' Hz18.out
      refine (same_c _ _ cc cz l.length (copY l m D S 0) _ (by rw [copY_0]) (by omega) ra.2.2 ra.2.1 rt.2.2 rt.2.1).mono ?_
      rintro e wq19 ⟨rfl, ⟨nq19, rfl⟩⟩
      clear ra rt
      have HB20 := Lib.hid (pw_below_drewN HB18.out nq19)
      have Hq20 := Lib.hid (Kd.R_drewN Hq18.out nq19)
      generalize wrz.drewN nq19 = w20 at HB20 Hq20 ⊢
      go_wp2_with fail
      have ra := Kd.R_reads' Hq20.out
      refine (same_c _ _ cq c2 m.length (m) _ rfl (by omega) ra.2.2 ra.2.1 (Kd.C_below HM.out HB20.out) hc2).mono ?_
      rintro e wq21 ⟨rfl, ⟨nq21, rfl⟩⟩
      clear ra
      have HB22 := Lib.hid (pw_below_drewN HB20.out nq21)
      have Hq22 := Lib.hid (Kd.R_drewN Hq20.out nq21)
      generalize w20.drewN nq21 = w22 at HB22 Hq22 ⊢
      go_wp2
      go_ret
      exact ⟨rfl, HB22.out⟩
set_option maxRecDepth 100000 in
set_option maxHeartbeats 4000000 in
theorem ta_ftt (A B : Option Addr) (c1 c2 : Nat) (l m : List Int) (d s n v : Int) (D S K : Nat) (W : World) (r1 : 0 ≤ d ∧ d ≤ 18446744073709551615) (r2 : 0 ≤ s ∧ s ≤ 18446744073709551615) (r3 : 0 ≤ n ∧ n ≤ 18446744073709551615) (r4 : 0 ≤ v ∧ v ≤ 18446744073709551615)
    (hd : d % 4294967296 = D) (hs : s % 4294967296 = S) (hn : n % 4294967296 = K) (bd : Go.bits .and .u64 d 4294967295 = D) (bs : Go.bits .and .u64 s 4294967295 = S) (bn : Go.bits .and .u64 n 4294967295 = K) (hl20 : l.length ≤ 20) (hm20 : m.length ≤ 20)
    (hi : l.length ≤ D) (hf : D + K ≤ l.length) (hf2 : S + K ≤ m.length)
    (hC : Kd.C (Kd.int .u64) W A l.length l) (hM : Kd.C (Kd.int .u64) W B m.length m) (hc1 : l.length ≤ c1) (hc2 : m.length ≤ c2) :
    Calls Try.prog 8 #[.slice A l.length c1, .slice B m.length c2, .int .u64 d, .int .u64 s, .int .u64 n, .int .u64 v] W fun e W' => e = .returned (.bool true) ∧ Below W.heap.size W W' := by
  have HC := Lib.hid hC
  have HM := Lib.hid hM
  clear hC hM
  have i1 : decide ((D : Int) < (l.length : Int)) = false := decide_eq_false (by omega)
  have i2 : decide (D < l.length) = false := decide_eq_false (by omega)
  have i3 : decide (D + K ≤ l.length) = true := decide_eq_true (by omega)
  have i4 : decide (S + K ≤ m.length) = true := decide_eq_true (by omega)
  go_enter Try.func8, Try.ntmps8
  go_wp2_with fail
  refine (begun15 _).mono ?_
  rintro e w0 ⟨rfl, hb⟩
  have HB0 := Lib.hid hb
  clear hb
  go_wp2_with fail
  refine (get_no A c1 l d D _ (Kd.C_below HC.out HB0.out) hc1 bd hi).mono ?_
  rintro e wg ⟨rfl, ⟨ng, rfl⟩⟩
  have HB1 := Lib.hid (pw_below_drewN HB0.out ng)
  generalize w0.drewN ng = w1 at HB1 ⊢
  go_upto_region 11 with (first | ((with_reducible refine gate_dst (N := 84) rfl ?_); refine Kd.R_lit (Kd.int .u64) _ 23 ?hg (N := 84) ?hd (xs := ([] : List Int)) (inner := []) (ok := fun _ => True) (okp := fun _ => True) ?hr ?hp (fun _ hk => hk) trivial (Below.refl _ _) (Nat.le_refl _) (by simp) ?_; (case hd => rfl); (case hg => rfl); (case hr => first | (go_simp; done) | (go_simp; rfl)); (case hp => exact (Reps.none _ _)); intro vl2 wl2 hol2 hbl2 hgl2 hnl2) | ((with_reducible refine gate_builtin (b := .append) (xs := #[.tmp 84, .tmp 85]) rfl ?_); at_builtin; refine Kd.R_append_rows (Kd.int .u64) (w0 := w1) w1.heap.size rfl (.tmp 84) (.tmp 85) 42 23 (.int .u64 0) 8 rfl Try.underlying42 info23 rfl (by decide) (by omega) vl2 [] l _ _ _ (fun _ => True) (fun _ => False) rfl rfl ?aO ?aR (fun _ _ h => h) (fun _ h => h.elim) ?aF ?aB ?aS ?aL ?_; (case aR => exact Kd.C_below (Kd.C_below HC.out HB1.out) hbl2); (case aB => exact hbl2); (case aF => exact fun _ _ => trivial); (case aO => exact hol2); (case aS => exact below_size hbl2); (case aL => simp; omega); intro v2 w2 ho2 hb2 hg2 hat2; have hso : ∃ b, v2.ownBlock = some b := (by obtain ⟨b0, hb0, _⟩ := hnl2; rcases hat2 with h | ⟨b2, h, _⟩; exact ⟨b0, h.trans hb0⟩; exact ⟨b2, h⟩); obtain ⟨Ax, ca, e2⟩ := Kd.R_slice ho2; subst e2; obtain ⟨bx, hbx⟩ := hso; obtain ⟨ga, eg⟩ := R_someB ho2 hbx; subst eg; have Ha2 := Lib.hid (show Kd.R (Kd.int .u64) 23 w2 w1.heap.size (fun _ => True) (.slice (some ⟨ga, 0, none⟩) l.length ca) l from ho2); have hlea := Lib.hid (below_size HB1.out); have HB2 := Lib.hid (below_step HB1.out hb2); clear hol2 hbl2 hgl2 hnl2 ho2 hb2 hg2 hat2 hbx) | ((with_reducible refine gate_dst (N := 87) rfl ?_); refine Kd.R_lit (Kd.int .u64) _ 23 ?hg (N := 87) ?hd (xs := ([] : List Int)) (inner := []) (ok := fun _ => True) (okp := fun _ => True) ?hr ?hp (fun _ hk => hk) trivial (Below.refl _ _) (Nat.le_refl _) (by simp) ?_; (case hd => rfl); (case hg => rfl); (case hr => first | (go_simp; done) | (go_simp; rfl)); (case hp => exact (Reps.none _ _)); intro vl3 wl3 hol3 hbl3 hgl3 hnl3) | ((with_reducible refine gate_builtin (b := .append) (xs := #[.tmp 87, .tmp 88]) rfl ?_); at_builtin; refine Kd.R_append_rows (Kd.int .u64) (w0 := w2) w2.heap.size rfl (.tmp 87) (.tmp 88) 42 23 (.int .u64 0) 8 rfl Try.underlying42 info23 rfl (by decide) (by omega) vl3 [] l _ _ _ (fun _ => True) (fun _ => False) rfl rfl ?aO ?aR (fun _ _ h => h) (fun _ h => h.elim) ?aF ?aB ?aS ?aL ?_; (case aR => exact Kd.C_below (Kd.C_below HC.out HB2.out) hbl3); (case aB => exact hbl3); (case aF => exact fun _ _ => trivial); (case aO => exact hol3); (case aS => exact below_size hbl3); (case aL => simp; omega); intro v2 w3 ho2 hb2 hg2 hat2; have hso : ∃ b, v2.ownBlock = some b := (by obtain ⟨b0, hb0, _⟩ := hnl3; rcases hat2 with h | ⟨b2, h, _⟩; exact ⟨b0, h.trans hb0⟩; exact ⟨b2, h⟩); obtain ⟨Ax, cb, e2⟩ := Kd.R_slice ho2; subst e2; obtain ⟨bx, hbx⟩ := hso; obtain ⟨gb, eg⟩ := R_someB ho2 hbx; subst eg; have Hb3 := Lib.hid (show Kd.R (Kd.int .u64) 23 w3 w2.heap.size (fun _ => True) (.slice (some ⟨gb, 0, none⟩) l.length cb) l from ho2); have hleb := Lib.hid (below_size HB2.out); have HB3 := Lib.hid (below_step HB2.out hb2); have Ha3 := Lib.hid (R_carry Ha2.out hb2); have neab := Lib.hid (show ga ≠ gb from by have := R_lt2 Ha2.out; have := Kd.R_base Hb3.out gb rfl; omega); clear hol3 hbl3 hgl3 hnl3 ho2 hb2 hg2 hat2 hbx) | ((with_reducible refine gate_dst (N := 90) rfl ?_); refine Kd.R_lit (Kd.int .u64) _ 23 ?hg (N := 90) ?hd (xs := ([] : List Int)) (inner := []) (ok := fun _ => True) (okp := fun _ => True) ?hr ?hp (fun _ hk => hk) trivial (Below.refl _ _) (Nat.le_refl _) (by simp) ?_; (case hd => rfl); (case hg => rfl); (case hr => first | (go_simp; done) | (go_simp; rfl)); (case hp => exact (Reps.none _ _)); intro vl4 wl4 hol4 hbl4 hgl4 hnl4) | ((with_reducible refine gate_builtin (b := .append) (xs := #[.tmp 90, .tmp 91]) rfl ?_); at_builtin; refine Kd.R_append_rows (Kd.int .u64) (w0 := w3) w3.heap.size rfl (.tmp 90) (.tmp 91) 42 23 (.int .u64 0) 8 rfl Try.underlying42 info23 rfl (by decide) (by omega) vl4 [] l _ _ _ (fun _ => True) (fun _ => False) rfl rfl ?aO ?aR (fun _ _ h => h) (fun _ h => h.elim) ?aF ?aB ?aS ?aL ?_; (case aR => exact Kd.C_below (Kd.C_below HC.out HB3.out) hbl4); (case aB => exact hbl4); (case aF => exact fun _ _ => trivial); (case aO => exact hol4); (case aS => exact below_size hbl4); (case aL => simp; omega); intro v2 w4 ho2 hb2 hg2 hat2; have hso : ∃ b, v2.ownBlock = some b := (by obtain ⟨b0, hb0, _⟩ := hnl4; rcases hat2 with h | ⟨b2, h, _⟩; exact ⟨b0, h.trans hb0⟩; exact ⟨b2, h⟩); obtain ⟨Ax, cc, e2⟩ := Kd.R_slice ho2; subst e2; obtain ⟨bx, hbx⟩ := hso; obtain ⟨gc, eg⟩ := R_someB ho2 hbx; subst eg; have Hc4 := Lib.hid (show Kd.R (Kd.int .u64) 23 w4 w3.heap.size (fun _ => True) (.slice (some ⟨gc, 0, none⟩) l.length cc) l from ho2); have hlec := Lib.hid (below_size HB3.out); have HB4 := Lib.hid (below_step HB3.out hb2); have Ha4 := Lib.hid (R_carry Ha3.out hb2); have neac := Lib.hid (show ga ≠ gc from by have := R_lt2 Ha3.out; have := Kd.R_base Hc4.out gc rfl; omega); have Hb4 := Lib.hid (R_carry Hb3.out hb2); have nebc := Lib.hid (show gb ≠ gc from by have := R_lt2 Hb3.out; have := Kd.R_base Hc4.out gc rfl; omega); clear hol4 hbl4 hgl4 hnl4 ho2 hb2 hg2 hat2 hbx))
  go_wp2_with fail
  refine (set_c ga ca l _ _ d v D false _ Ha4.out bd i2).mono ?_
  rintro e ws ⟨rfl, hRs, hGs⟩
  have HB5 := Lib.hid (below_own HB4.out Ha4.out hlea.out hGs)
  have Ha5 := Lib.hid hRs
  have Hb5 := Lib.hid (R_other Hb4.out hGs (by first | exact neba.out | exact neab.out.symm))
  have Hc5 := Lib.hid (R_other Hc4.out hGs (by first | exact neca.out | exact neac.out.symm))
  clear hRs hGs
  dsimp only [okOr, cond_true, cond_false]
  go_upto_region 13 with (first | ((with_reducible refine gate_dst (N := 97) rfl ?_); refine Kd.R_lit (Kd.int .u64) _ 23 ?hg (N := 97) ?hd (xs := ([] : List Int)) (inner := []) (ok := fun _ => True) (okp := fun _ => True) ?hr ?hp (fun _ hk => hk) trivial (Below.refl _ _) (Nat.le_refl _) (by simp) ?_; (case hd => rfl); (case hg => rfl); (case hr => first | (go_simp; done) | (go_simp; rfl)); (case hp => exact (Reps.none _ _)); intro vl6 wl6 hol6 hbl6 hgl6 hnl6) | ((with_reducible refine gate_builtin (b := .append) (xs := #[.tmp 97, .tmp 98]) rfl ?_); at_builtin; refine Kd.R_append_rows (Kd.int .u64) (w0 := ws) ws.heap.size rfl (.tmp 97) (.tmp 98) 42 23 (.int .u64 0) 8 rfl Try.underlying42 info23 rfl (by decide) (by omega) vl6 [] l _ _ _ (fun _ => True) (fun _ => False) rfl rfl ?aO ?aR (fun _ _ h => h) (fun _ h => h.elim) ?aF ?aB ?aS ?aL ?_; (case aR => exact Kd.C_below (Kd.C_below HC.out HB5.out) hbl6); (case aB => exact hbl6); (case aF => exact fun _ _ => trivial); (case aO => exact hol6); (case aS => exact below_size hbl6); (case aL => simp; omega); intro v2 w6 ho2 hb2 hg2 hat2; have hso : ∃ b, v2.ownBlock = some b := (by obtain ⟨b0, hb0, _⟩ := hnl6; rcases hat2 with h | ⟨b2, h, _⟩; exact ⟨b0, h.trans hb0⟩; exact ⟨b2, h⟩); obtain ⟨Ax, ct, e2⟩ := Kd.R_slice ho2; subst e2; obtain ⟨bx, hbx⟩ := hso; obtain ⟨gt, eg⟩ := R_someB ho2 hbx; subst eg; have Ht6 := Lib.hid (show Kd.R (Kd.int .u64) 23 w6 ws.heap.size (fun _ => True) (.slice (some ⟨gt, 0, none⟩) l.length ct) l from ho2); have hlet := Lib.hid (below_size HB5.out); have HB6 := Lib.hid (below_step HB5.out hb2); have Ha6 := Lib.hid (R_carry Ha5.out hb2); have neat := Lib.hid (show ga ≠ gt from by have := R_lt2 Ha5.out; have := Kd.R_base Ht6.out gt rfl; omega); have Hb6 := Lib.hid (R_carry Hb5.out hb2); have nebt := Lib.hid (show gb ≠ gt from by have := R_lt2 Hb5.out; have := Kd.R_base Ht6.out gt rfl; omega); have Hc6 := Lib.hid (R_carry Hc5.out hb2); have nect := Lib.hid (show gc ≠ gt from by have := R_lt2 Hc5.out; have := Kd.R_base Ht6.out gt rfl; omega); clear hol6 hbl6 hgl6 hnl6 ho2 hb2 hg2 hat2 hbx))
  have hset : l.set D v = l := List.set_eq_of_length_le hi
  have HSE := Lib.hid hset
  clear hset
  go_wp2_with fail
  have ra := Kd.R_reads' Ha6.out
  have rt := Kd.R_reads' Ht6.out
  rw [HSE.out] at ra
  refine (same_c _ _ ca ct l.length l _ rfl (by omega) ra.2.2 ra.2.1 rt.2.2 rt.2.1).mono ?_
  rintro e wq ⟨rfl, ⟨nq1, rfl⟩⟩
  clear ra rt
  have HB7 := Lib.hid (pw_below_drewN HB6.out nq1)
  have Hb7 := Lib.hid (Kd.R_drewN Hb6.out nq1)
  have Hc7 := Lib.hid (Kd.R_drewN Hc6.out nq1)
  generalize w6.drewN nq1 = w7 at HB7 Hb7 Hc7 ⊢
  go_wp2_with fail
  refine (fitsr_c l.length D K _ (by omega) true i3).mono ?_
  rintro e wf ⟨rfl, ⟨nf, rfl⟩⟩
  have HB8 := Lib.hid (pw_below_drewN HB7.out nf)
  have Hb8 := Lib.hid (Kd.R_drewN Hb7.out nf)
  have Hc8 := Lib.hid (Kd.R_drewN Hc7.out nf)
  generalize w7.drewN nf = w8 at HB8 Hb8 Hc8 ⊢
  go_wp2_with fail
  refine (fill_c gb cb l _ _ d v n D K true _ Hb8.out bd bn i3).mono ?_
  rintro e wz ⟨rfl, hRz, hGz⟩
  have HB9 := Lib.hid (below_own HB8.out Hb8.out hleb.out hGz)
  have Hb9 := Lib.hid hRz
  have Hc9 := Lib.hid (R_other Hc8.out hGz (by first | exact necb.out | exact nebc.out.symm))
  clear hRz hGz
  dsimp only [okOr, cond_true, cond_false]
  go_upto_region 20 with (first | ((with_reducible refine gate_dst (N := 125) rfl ?_); refine Kd.R_lit (Kd.int .u64) _ 23 ?hg (N := 125) ?hd (xs := ([] : List Int)) (inner := []) (ok := fun _ => True) (okp := fun _ => True) ?hr ?hp (fun _ hk => hk) trivial (Below.refl _ _) (Nat.le_refl _) (by simp) ?_; (case hd => rfl); (case hg => rfl); (case hr => first | (go_simp; done) | (go_simp; rfl)); (case hp => exact (Reps.none _ _)); intro vl10 wl10 hol10 hbl10 hgl10 hnl10) | ((with_reducible refine gate_builtin (b := .append) (xs := #[.tmp 125, .tmp 126]) rfl ?_); at_builtin; refine Kd.R_append_rows (Kd.int .u64) (w0 := wz) wz.heap.size rfl (.tmp 125) (.tmp 126) 42 23 (.int .u64 0) 8 rfl Try.underlying42 info23 rfl (by decide) (by omega) vl10 [] l _ _ _ (fun _ => True) (fun _ => False) rfl rfl ?aO ?aR (fun _ _ h => h) (fun _ h => h.elim) ?aF ?aB ?aS ?aL ?_; (case aR => exact Kd.C_below (Kd.C_below HC.out HB9.out) hbl10); (case aB => exact hbl10); (case aF => exact fun _ _ => trivial); (case aO => exact hol10); (case aS => exact below_size hbl10); (case aL => simp; omega); intro v2 w10 ho2 hb2 hg2 hat2; have hso : ∃ b, v2.ownBlock = some b := (by obtain ⟨b0, hb0, _⟩ := hnl10; rcases hat2 with h | ⟨b2, h, _⟩; exact ⟨b0, h.trans hb0⟩; exact ⟨b2, h⟩); obtain ⟨Ax, cu, e2⟩ := Kd.R_slice ho2; subst e2; obtain ⟨bx, hbx⟩ := hso; obtain ⟨gu, eg⟩ := R_someB ho2 hbx; subst eg; have Hu10 := Lib.hid (show Kd.R (Kd.int .u64) 23 w10 wz.heap.size (fun _ => True) (.slice (some ⟨gu, 0, none⟩) l.length cu) l from ho2); have hleu := Lib.hid (below_size HB9.out); have HB10 := Lib.hid (below_step HB9.out hb2); have Hb10 := Lib.hid (R_carry Hb9.out hb2); have nebu := Lib.hid (show gb ≠ gu from by have := R_lt2 Hb9.out; have := Kd.R_base Hu10.out gu rfl; omega); have Hc10 := Lib.hid (R_carry Hc9.out hb2); have necu := Lib.hid (show gc ≠ gu from by have := R_lt2 Hc9.out; have := Kd.R_base Hu10.out gu rfl; omega); clear hol10 hbl10 hgl10 hnl10 ho2 hb2 hg2 hat2 hbx))
  go_wp2_with fail
  go_loopw [26] (fun i wru => ∃ j : Nat, j ≤ cnt true K ∧ i = .int .u64 j ∧ Kd.R (Kd.int .u64) 23 wru wz.heap.size (fun _ => True) (.slice (some ⟨gu, 0, none⟩) l.length cu) (filY l D v j) ∧ w10.grownBy wru (some gu)) (fun i _ => K - (intOf i).toNat)
  case atStart =>
    refine ⟨0, Nat.zero_le _, rfl, ?_, World.grownBy.refl _ _⟩
    rw [filY_0]
    exact Hu10.out
  case round =>
    obtain ⟨wru, rfl⟩ : ∃ x, x = wr := ⟨wr, rfl⟩
    obtain ⟨j, hj, rfl, hRk, hg⟩ := hrel
    have HK := Lib.hid hRk
    have HG := Lib.hid hg
    clear hRk hg
    have hj2 : j ≤ K := hj
    by_cases hlt : j < K
    · exact absurd hlt (by omega)
    obtain rfl : K = j := by omega
    clear hlt hj hj2
    have HB11 := Lib.hid (below_own HB10.out Hu10.out hleu.out HG.out)
    have Hb11 := Lib.hid (R_other Hb10.out HG.out (by first | exact nebu.out | exact neub.out.symm))
    have Hc11 := Lib.hid (R_other Hc10.out HG.out (by first | exact necu.out | exact neuc.out.symm))
    have Hu11 := Lib.hid HK.out
    go_wp2_with fail
    have ra := Kd.R_reads' Hb11.out
    have rt := Kd.R_reads' Hu11.out
    refine (same_c _ _ cb cu l.length (filY l D v K) _ (filY_len l D v K hf) (by omega) ra.2.2 ra.2.1 rt.2.2 rt.2.1).mono ?_
    rintro e wq12 ⟨rfl, ⟨nq12, rfl⟩⟩
    clear ra rt
    have HB13 := Lib.hid (pw_below_drewN HB11.out nq12)
    have Hc13 := Lib.hid (Kd.R_drewN Hc11.out nq12)
    generalize wru.drewN nq12 = w13 at HB13 Hc13 ⊢
    go_upto_region 27 with (first | ((with_reducible refine gate_dst (N := 152) rfl ?_); refine Kd.R_lit (Kd.int .u64) _ 23 ?hg (N := 152) ?hd (xs := ([] : List Int)) (inner := []) (ok := fun _ => True) (okp := fun _ => True) ?hr ?hp (fun _ hk => hk) trivial (Below.refl _ _) (Nat.le_refl _) (by simp) ?_; (case hd => rfl); (case hg => rfl); (case hr => first | (go_simp; done) | (go_simp; rfl)); (case hp => exact (Reps.none _ _)); intro vl14 wl14 hol14 hbl14 hgl14 hnl14) | ((with_reducible refine gate_builtin (b := .append) (xs := #[.tmp 152, .tmp 153]) rfl ?_); at_builtin; refine Kd.R_append_rows (Kd.int .u64) (w0 := w13) w13.heap.size rfl (.tmp 152) (.tmp 153) 42 23 (.int .u64 0) 8 rfl Try.underlying42 info23 rfl (by decide) (by omega) vl14 [] m _ _ _ (fun _ => True) (fun _ => False) rfl rfl ?aO ?aR (fun _ _ h => h) (fun _ h => h.elim) ?aF ?aB ?aS ?aL ?_; (case aR => exact Kd.C_below (Kd.C_below HM.out HB13.out) hbl14); (case aB => exact hbl14); (case aF => exact fun _ _ => trivial); (case aO => exact hol14); (case aS => exact below_size hbl14); (case aL => simp; omega); intro v2 w14 ho2 hb2 hg2 hat2; have hso : ∃ b, v2.ownBlock = some b := (by obtain ⟨b0, hb0, _⟩ := hnl14; rcases hat2 with h | ⟨b2, h, _⟩; exact ⟨b0, h.trans hb0⟩; exact ⟨b2, h⟩); obtain ⟨Ax, cq, e2⟩ := Kd.R_slice ho2; subst e2; obtain ⟨bx, hbx⟩ := hso; obtain ⟨gq, eg⟩ := R_someB ho2 hbx; subst eg; have Hq14 := Lib.hid (show Kd.R (Kd.int .u64) 23 w14 w13.heap.size (fun _ => True) (.slice (some ⟨gq, 0, none⟩) m.length cq) m from ho2); have hleq := Lib.hid (below_size HB13.out); have HB14 := Lib.hid (below_step HB13.out hb2); have Hc14 := Lib.hid (R_carry Hc13.out hb2); have necq := Lib.hid (show gc ≠ gq from by have := R_lt2 Hc13.out; have := Kd.R_base Hq14.out gq rfl; omega); clear hol14 hbl14 hgl14 hnl14 ho2 hb2 hg2 hat2 hbx))
    go_wp2_with fail
    refine (fitsr_c m.length S K _ (by omega) true i4).mono ?_
    rintro e wf2 ⟨rfl, ⟨nf2, rfl⟩⟩
    have HB15 := Lib.hid (pw_below_drewN HB14.out nf2)
    have Hc15 := Lib.hid (Kd.R_drewN Hc14.out nf2)
    have Hq15 := Lib.hid (Kd.R_drewN Hq14.out nf2)
    generalize w14.drewN nf2 = w15 at HB15 Hc15 Hq15 ⊢
    go_wp2_with fail
    have i5 : (decide (D + K ≤ l.length) && decide (S + K ≤ m.length)) = true := by rw [i3, i4]; rfl
    have rq := Kd.R_reads' Hq15.out
    refine (copy_c gc cc cq l m _ _ _ d s n D S K true _ Hc15.out rq.2.2 rq.2.1 bd bs bn i5).mono ?_
    rintro e wy ⟨rfl, hRy, hGy⟩
    have HB16 := Lib.hid (below_own HB15.out Hc15.out hlec.out hGy)
    have Hc16 := Lib.hid hRy
    have Hq16 := Lib.hid (R_other Hq15.out hGy (by first | exact neqc.out | exact necq.out.symm))
    clear hRy hGy rq i5
    dsimp only [okOr, cond_true, cond_false]
    go_upto_region 30 with (first | ((with_reducible refine gate_dst (N := 169) rfl ?_); refine Kd.R_lit (Kd.int .u64) _ 23 ?hg (N := 169) ?hd (xs := ([] : List Int)) (inner := []) (ok := fun _ => True) (okp := fun _ => True) ?hr ?hp (fun _ hk => hk) trivial (Below.refl _ _) (Nat.le_refl _) (by simp) ?_; (case hd => rfl); (case hg => rfl); (case hr => first | (go_simp; done) | (go_simp; rfl)); (case hp => exact (Reps.none _ _)); intro vl17 wl17 hol17 hbl17 hgl17 hnl17) | ((with_reducible refine gate_builtin (b := .append) (xs := #[.tmp 169, .tmp 170]) rfl ?_); at_builtin; refine Kd.R_append_rows (Kd.int .u64) (w0 := wy) wy.heap.size rfl (.tmp 169) (.tmp 170) 42 23 (.int .u64 0) 8 rfl Try.underlying42 info23 rfl (by decide) (by omega) vl17 [] l _ _ _ (fun _ => True) (fun _ => False) rfl rfl ?aO ?aR (fun _ _ h => h) (fun _ h => h.elim) ?aF ?aB ?aS ?aL ?_; (case aR => exact Kd.C_below (Kd.C_below HC.out HB16.out) hbl17); (case aB => exact hbl17); (case aF => exact fun _ _ => trivial); (case aO => exact hol17); (case aS => exact below_size hbl17); (case aL => simp; omega); intro v2 w17 ho2 hb2 hg2 hat2; have hso : ∃ b, v2.ownBlock = some b := (by obtain ⟨b0, hb0, _⟩ := hnl17; rcases hat2 with h | ⟨b2, h, _⟩; exact ⟨b0, h.trans hb0⟩; exact ⟨b2, h⟩); obtain ⟨Ax, cz, e2⟩ := Kd.R_slice ho2; subst e2; obtain ⟨bx, hbx⟩ := hso; obtain ⟨gz, eg⟩ := R_someB ho2 hbx; subst eg; have Hz17 := Lib.hid (show Kd.R (Kd.int .u64) 23 w17 wy.heap.size (fun _ => True) (.slice (some ⟨gz, 0, none⟩) l.length cz) l from ho2); have hlez := Lib.hid (below_size HB16.out); have HB17 := Lib.hid (below_step HB16.out hb2); have Hc17 := Lib.hid (R_carry Hc16.out hb2); have necz := Lib.hid (show gc ≠ gz from by have := R_lt2 Hc16.out; have := Kd.R_base Hz17.out gz rfl; omega); have Hq17 := Lib.hid (R_carry Hq16.out hb2); have neqz := Lib.hid (show gq ≠ gz from by have := R_lt2 Hq16.out; have := Kd.R_base Hz17.out gz rfl; omega); clear hol17 hbl17 hgl17 hnl17 ho2 hb2 hg2 hat2 hbx))
    go_wp2_with fail
    go_loopw [29] (fun i wrz => ∃ j : Nat, j ≤ cnt true K ∧ i = .int .u64 j ∧ Kd.R (Kd.int .u64) 23 wrz wy.heap.size (fun _ => True) (.slice (some ⟨gz, 0, none⟩) l.length cz) (copY l m D S j) ∧ w17.grownBy wrz (some gz)) (fun i _ => K - (intOf i).toNat)
    case atStart =>
      refine ⟨0, Nat.zero_le _, rfl, ?_, World.grownBy.refl _ _⟩
      rw [copY_0]
      exact Hz17.out
    case round =>
      obtain ⟨wrz, rfl⟩ : ∃ x, x = wr := ⟨wr, rfl⟩
      obtain ⟨j, hj, rfl, hRk, hg⟩ := hrel
      have HK := Lib.hid hRk
      have HG := Lib.hid hg
      clear hRk hg
      have hj2 : j ≤ K := hj
      by_cases hlt : j < K
      · exact absurd hlt (by omega)
      obtain rfl : K = j := by omega
      clear hlt hj hj2
      have HB18 := Lib.hid (below_own HB17.out Hz17.out hlez.out HG.out)
      have Hc18 := Lib.hid (R_other Hc17.out HG.out (by first | exact necz.out | exact nezc.out.symm))
      have Hq18 := Lib.hid (R_other Hq17.out HG.out (by first | exact neqz.out | exact nezq.out.symm))
      have Hz18 := Lib.hid HK.out
      go_wp2_with fail
      have ra := Kd.R_reads' Hc18.out
      have rt := Kd.R_reads' Hz18.out
      refine (same_c _ _ cc cz l.length (copY l m D S K) _ (copY_len l m D S K hf hf2) (by omega) ra.2.2 ra.2.1 rt.2.2 rt.2.1).mono ?_
      rintro e wq19 ⟨rfl, ⟨nq19, rfl⟩⟩
      clear ra rt
      have HB20 := Lib.hid (pw_below_drewN HB18.out nq19)
      have Hq20 := Lib.hid (Kd.R_drewN Hq18.out nq19)
      generalize wrz.drewN nq19 = w20 at HB20 Hq20 ⊢
      go_wp2_with fail
      have ra := Kd.R_reads' Hq20.out
      refine (same_c _ _ cq c2 m.length (m) _ rfl (by omega) ra.2.2 ra.2.1 (Kd.C_below HM.out HB20.out) hc2).mono ?_
      rintro e wq21 ⟨rfl, ⟨nq21, rfl⟩⟩
      clear ra
      have HB22 := Lib.hid (pw_below_drewN HB20.out nq21)
      have Hq22 := Lib.hid (Kd.R_drewN Hq20.out nq21)
      generalize w20.drewN nq21 = w22 at HB22 Hq22 ⊢
      go_wp2
      go_ret
      exact ⟨rfl, HB22.out⟩
set_option maxRecDepth 100000 in
set_option maxHeartbeats 4000000 in
theorem ta_ftf (A B : Option Addr) (c1 c2 : Nat) (l m : List Int) (d s n v : Int) (D S K : Nat) (W : World) (r1 : 0 ≤ d ∧ d ≤ 18446744073709551615) (r2 : 0 ≤ s ∧ s ≤ 18446744073709551615) (r3 : 0 ≤ n ∧ n ≤ 18446744073709551615) (r4 : 0 ≤ v ∧ v ≤ 18446744073709551615)
    (hd : d % 4294967296 = D) (hs : s % 4294967296 = S) (hn : n % 4294967296 = K) (bd : Go.bits .and .u64 d 4294967295 = D) (bs : Go.bits .and .u64 s 4294967295 = S) (bn : Go.bits .and .u64 n 4294967295 = K) (hl20 : l.length ≤ 20) (hm20 : m.length ≤ 20)
    (hi : l.length ≤ D) (hf : D + K ≤ l.length) (hf2 : m.length < S + K)
    (hC : Kd.C (Kd.int .u64) W A l.length l) (hM : Kd.C (Kd.int .u64) W B m.length m) (hc1 : l.length ≤ c1) (hc2 : m.length ≤ c2) :
    Calls Try.prog 8 #[.slice A l.length c1, .slice B m.length c2, .int .u64 d, .int .u64 s, .int .u64 n, .int .u64 v] W fun e W' => e = .returned (.bool true) ∧ Below W.heap.size W W' := by
  have HC := Lib.hid hC
  have HM := Lib.hid hM
  clear hC hM
  have i1 : decide ((D : Int) < (l.length : Int)) = false := decide_eq_false (by omega)
  have i2 : decide (D < l.length) = false := decide_eq_false (by omega)
  have i3 : decide (D + K ≤ l.length) = true := decide_eq_true (by omega)
  have i4 : decide (S + K ≤ m.length) = false := decide_eq_false (by omega)
  go_enter Try.func8, Try.ntmps8
  go_wp2_with fail
  refine (begun15 _).mono ?_
  rintro e w0 ⟨rfl, hb⟩
  have HB0 := Lib.hid hb
  clear hb
  go_wp2_with fail
  refine (get_no A c1 l d D _ (Kd.C_below HC.out HB0.out) hc1 bd hi).mono ?_
  rintro e wg ⟨rfl, ⟨ng, rfl⟩⟩
  have HB1 := Lib.hid (pw_below_drewN HB0.out ng)
  generalize w0.drewN ng = w1 at HB1 ⊢
  go_upto_region 11 with (first | ((with_reducible refine gate_dst (N := 84) rfl ?_); refine Kd.R_lit (Kd.int .u64) _ 23 ?hg (N := 84) ?hd (xs := ([] : List Int)) (inner := []) (ok := fun _ => True) (okp := fun _ => True) ?hr ?hp (fun _ hk => hk) trivial (Below.refl _ _) (Nat.le_refl _) (by simp) ?_; (case hd => rfl); (case hg => rfl); (case hr => first | (go_simp; done) | (go_simp; rfl)); (case hp => exact (Reps.none _ _)); intro vl2 wl2 hol2 hbl2 hgl2 hnl2) | ((with_reducible refine gate_builtin (b := .append) (xs := #[.tmp 84, .tmp 85]) rfl ?_); at_builtin; refine Kd.R_append_rows (Kd.int .u64) (w0 := w1) w1.heap.size rfl (.tmp 84) (.tmp 85) 42 23 (.int .u64 0) 8 rfl Try.underlying42 info23 rfl (by decide) (by omega) vl2 [] l _ _ _ (fun _ => True) (fun _ => False) rfl rfl ?aO ?aR (fun _ _ h => h) (fun _ h => h.elim) ?aF ?aB ?aS ?aL ?_; (case aR => exact Kd.C_below (Kd.C_below HC.out HB1.out) hbl2); (case aB => exact hbl2); (case aF => exact fun _ _ => trivial); (case aO => exact hol2); (case aS => exact below_size hbl2); (case aL => simp; omega); intro v2 w2 ho2 hb2 hg2 hat2; have hso : ∃ b, v2.ownBlock = some b := (by obtain ⟨b0, hb0, _⟩ := hnl2; rcases hat2 with h | ⟨b2, h, _⟩; exact ⟨b0, h.trans hb0⟩; exact ⟨b2, h⟩); obtain ⟨Ax, ca, e2⟩ := Kd.R_slice ho2; subst e2; obtain ⟨bx, hbx⟩ := hso; obtain ⟨ga, eg⟩ := R_someB ho2 hbx; subst eg; have Ha2 := Lib.hid (show Kd.R (Kd.int .u64) 23 w2 w1.heap.size (fun _ => True) (.slice (some ⟨ga, 0, none⟩) l.length ca) l from ho2); have hlea := Lib.hid (below_size HB1.out); have HB2 := Lib.hid (below_step HB1.out hb2); clear hol2 hbl2 hgl2 hnl2 ho2 hb2 hg2 hat2 hbx) | ((with_reducible refine gate_dst (N := 87) rfl ?_); refine Kd.R_lit (Kd.int .u64) _ 23 ?hg (N := 87) ?hd (xs := ([] : List Int)) (inner := []) (ok := fun _ => True) (okp := fun _ => True) ?hr ?hp (fun _ hk => hk) trivial (Below.refl _ _) (Nat.le_refl _) (by simp) ?_; (case hd => rfl); (case hg => rfl); (case hr => first | (go_simp; done) | (go_simp; rfl)); (case hp => exact (Reps.none _ _)); intro vl3 wl3 hol3 hbl3 hgl3 hnl3) | ((with_reducible refine gate_builtin (b := .append) (xs := #[.tmp 87, .tmp 88]) rfl ?_); at_builtin; refine Kd.R_append_rows (Kd.int .u64) (w0 := w2) w2.heap.size rfl (.tmp 87) (.tmp 88) 42 23 (.int .u64 0) 8 rfl Try.underlying42 info23 rfl (by decide) (by omega) vl3 [] l _ _ _ (fun _ => True) (fun _ => False) rfl rfl ?aO ?aR (fun _ _ h => h) (fun _ h => h.elim) ?aF ?aB ?aS ?aL ?_; (case aR => exact Kd.C_below (Kd.C_below HC.out HB2.out) hbl3); (case aB => exact hbl3); (case aF => exact fun _ _ => trivial); (case aO => exact hol3); (case aS => exact below_size hbl3); (case aL => simp; omega); intro v2 w3 ho2 hb2 hg2 hat2; have hso : ∃ b, v2.ownBlock = some b := (by obtain ⟨b0, hb0, _⟩ := hnl3; rcases hat2 with h | ⟨b2, h, _⟩; exact ⟨b0, h.trans hb0⟩; exact ⟨b2, h⟩); obtain ⟨Ax, cb, e2⟩ := Kd.R_slice ho2; subst e2; obtain ⟨bx, hbx⟩ := hso; obtain ⟨gb, eg⟩ := R_someB ho2 hbx; subst eg; have Hb3 := Lib.hid (show Kd.R (Kd.int .u64) 23 w3 w2.heap.size (fun _ => True) (.slice (some ⟨gb, 0, none⟩) l.length cb) l from ho2); have hleb := Lib.hid (below_size HB2.out); have HB3 := Lib.hid (below_step HB2.out hb2); have Ha3 := Lib.hid (R_carry Ha2.out hb2); have neab := Lib.hid (show ga ≠ gb from by have := R_lt2 Ha2.out; have := Kd.R_base Hb3.out gb rfl; omega); clear hol3 hbl3 hgl3 hnl3 ho2 hb2 hg2 hat2 hbx) | ((with_reducible refine gate_dst (N := 90) rfl ?_); refine Kd.R_lit (Kd.int .u64) _ 23 ?hg (N := 90) ?hd (xs := ([] : List Int)) (inner := []) (ok := fun _ => True) (okp := fun _ => True) ?hr ?hp (fun _ hk => hk) trivial (Below.refl _ _) (Nat.le_refl _) (by simp) ?_; (case hd => rfl); (case hg => rfl); (case hr => first | (go_simp; done) | (go_simp; rfl)); (case hp => exact (Reps.none _ _)); intro vl4 wl4 hol4 hbl4 hgl4 hnl4) | ((with_reducible refine gate_builtin (b := .append) (xs := #[.tmp 90, .tmp 91]) rfl ?_); at_builtin; refine Kd.R_append_rows (Kd.int .u64) (w0 := w3) w3.heap.size rfl (.tmp 90) (.tmp 91) 42 23 (.int .u64 0) 8 rfl Try.underlying42 info23 rfl (by decide) (by omega) vl4 [] l _ _ _ (fun _ => True) (fun _ => False) rfl rfl ?aO ?aR (fun _ _ h => h) (fun _ h => h.elim) ?aF ?aB ?aS ?aL ?_; (case aR => exact Kd.C_below (Kd.C_below HC.out HB3.out) hbl4); (case aB => exact hbl4); (case aF => exact fun _ _ => trivial); (case aO => exact hol4); (case aS => exact below_size hbl4); (case aL => simp; omega); intro v2 w4 ho2 hb2 hg2 hat2; have hso : ∃ b, v2.ownBlock = some b := (by obtain ⟨b0, hb0, _⟩ := hnl4; rcases hat2 with h | ⟨b2, h, _⟩; exact ⟨b0, h.trans hb0⟩; exact ⟨b2, h⟩); obtain ⟨Ax, cc, e2⟩ := Kd.R_slice ho2; subst e2; obtain ⟨bx, hbx⟩ := hso; obtain ⟨gc, eg⟩ := R_someB ho2 hbx; subst eg; have Hc4 := Lib.hid (show Kd.R (Kd.int .u64) 23 w4 w3.heap.size (fun _ => True) (.slice (some ⟨gc, 0, none⟩) l.length cc) l from ho2); have hlec := Lib.hid (below_size HB3.out); have HB4 := Lib.hid (below_step HB3.out hb2); have Ha4 := Lib.hid (R_carry Ha3.out hb2); have neac := Lib.hid (show ga ≠ gc from by have := R_lt2 Ha3.out; have := Kd.R_base Hc4.out gc rfl; omega); have Hb4 := Lib.hid (R_carry Hb3.out hb2); have nebc := Lib.hid (show gb ≠ gc from by have := R_lt2 Hb3.out; have := Kd.R_base Hc4.out gc rfl; omega); clear hol4 hbl4 hgl4 hnl4 ho2 hb2 hg2 hat2 hbx))
  go_wp2_with fail
  refine (set_c ga ca l _ _ d v D false _ Ha4.out bd i2).mono ?_
  rintro e ws ⟨rfl, hRs, hGs⟩
  have HB5 := Lib.hid (below_own HB4.out Ha4.out hlea.out hGs)
  have Ha5 := Lib.hid hRs
  have Hb5 := Lib.hid (R_other Hb4.out hGs (by first | exact neba.out | exact neab.out.symm))
  have Hc5 := Lib.hid (R_other Hc4.out hGs (by first | exact neca.out | exact neac.out.symm))
  clear hRs hGs
  dsimp only [okOr, cond_true, cond_false]
  go_upto_region 13 with (first | ((with_reducible refine gate_dst (N := 97) rfl ?_); refine Kd.R_lit (Kd.int .u64) _ 23 ?hg (N := 97) ?hd (xs := ([] : List Int)) (inner := []) (ok := fun _ => True) (okp := fun _ => True) ?hr ?hp (fun _ hk => hk) trivial (Below.refl _ _) (Nat.le_refl _) (by simp) ?_; (case hd => rfl); (case hg => rfl); (case hr => first | (go_simp; done) | (go_simp; rfl)); (case hp => exact (Reps.none _ _)); intro vl6 wl6 hol6 hbl6 hgl6 hnl6) | ((with_reducible refine gate_builtin (b := .append) (xs := #[.tmp 97, .tmp 98]) rfl ?_); at_builtin; refine Kd.R_append_rows (Kd.int .u64) (w0 := ws) ws.heap.size rfl (.tmp 97) (.tmp 98) 42 23 (.int .u64 0) 8 rfl Try.underlying42 info23 rfl (by decide) (by omega) vl6 [] l _ _ _ (fun _ => True) (fun _ => False) rfl rfl ?aO ?aR (fun _ _ h => h) (fun _ h => h.elim) ?aF ?aB ?aS ?aL ?_; (case aR => exact Kd.C_below (Kd.C_below HC.out HB5.out) hbl6); (case aB => exact hbl6); (case aF => exact fun _ _ => trivial); (case aO => exact hol6); (case aS => exact below_size hbl6); (case aL => simp; omega); intro v2 w6 ho2 hb2 hg2 hat2; have hso : ∃ b, v2.ownBlock = some b := (by obtain ⟨b0, hb0, _⟩ := hnl6; rcases hat2 with h | ⟨b2, h, _⟩; exact ⟨b0, h.trans hb0⟩; exact ⟨b2, h⟩); obtain ⟨Ax, ct, e2⟩ := Kd.R_slice ho2; subst e2; obtain ⟨bx, hbx⟩ := hso; obtain ⟨gt, eg⟩ := R_someB ho2 hbx; subst eg; have Ht6 := Lib.hid (show Kd.R (Kd.int .u64) 23 w6 ws.heap.size (fun _ => True) (.slice (some ⟨gt, 0, none⟩) l.length ct) l from ho2); have hlet := Lib.hid (below_size HB5.out); have HB6 := Lib.hid (below_step HB5.out hb2); have Ha6 := Lib.hid (R_carry Ha5.out hb2); have neat := Lib.hid (show ga ≠ gt from by have := R_lt2 Ha5.out; have := Kd.R_base Ht6.out gt rfl; omega); have Hb6 := Lib.hid (R_carry Hb5.out hb2); have nebt := Lib.hid (show gb ≠ gt from by have := R_lt2 Hb5.out; have := Kd.R_base Ht6.out gt rfl; omega); have Hc6 := Lib.hid (R_carry Hc5.out hb2); have nect := Lib.hid (show gc ≠ gt from by have := R_lt2 Hc5.out; have := Kd.R_base Ht6.out gt rfl; omega); clear hol6 hbl6 hgl6 hnl6 ho2 hb2 hg2 hat2 hbx))
  have hset : l.set D v = l := List.set_eq_of_length_le hi
  have HSE := Lib.hid hset
  clear hset
  go_wp2_with fail
  have ra := Kd.R_reads' Ha6.out
  have rt := Kd.R_reads' Ht6.out
  rw [HSE.out] at ra
  refine (same_c _ _ ca ct l.length l _ rfl (by omega) ra.2.2 ra.2.1 rt.2.2 rt.2.1).mono ?_
  rintro e wq ⟨rfl, ⟨nq1, rfl⟩⟩
  clear ra rt
  have HB7 := Lib.hid (pw_below_drewN HB6.out nq1)
  have Hb7 := Lib.hid (Kd.R_drewN Hb6.out nq1)
  have Hc7 := Lib.hid (Kd.R_drewN Hc6.out nq1)
  generalize w6.drewN nq1 = w7 at HB7 Hb7 Hc7 ⊢
  go_wp2_with fail
  refine (fitsr_c l.length D K _ (by omega) true i3).mono ?_
  rintro e wf ⟨rfl, ⟨nf, rfl⟩⟩
  have HB8 := Lib.hid (pw_below_drewN HB7.out nf)
  have Hb8 := Lib.hid (Kd.R_drewN Hb7.out nf)
  have Hc8 := Lib.hid (Kd.R_drewN Hc7.out nf)
  generalize w7.drewN nf = w8 at HB8 Hb8 Hc8 ⊢
  go_wp2_with fail
  refine (fill_c gb cb l _ _ d v n D K true _ Hb8.out bd bn i3).mono ?_
  rintro e wz ⟨rfl, hRz, hGz⟩
  have HB9 := Lib.hid (below_own HB8.out Hb8.out hleb.out hGz)
  have Hb9 := Lib.hid hRz
  have Hc9 := Lib.hid (R_other Hc8.out hGz (by first | exact necb.out | exact nebc.out.symm))
  clear hRz hGz
  dsimp only [okOr, cond_true, cond_false]
  go_upto_region 20 with (first | ((with_reducible refine gate_dst (N := 125) rfl ?_); refine Kd.R_lit (Kd.int .u64) _ 23 ?hg (N := 125) ?hd (xs := ([] : List Int)) (inner := []) (ok := fun _ => True) (okp := fun _ => True) ?hr ?hp (fun _ hk => hk) trivial (Below.refl _ _) (Nat.le_refl _) (by simp) ?_; (case hd => rfl); (case hg => rfl); (case hr => first | (go_simp; done) | (go_simp; rfl)); (case hp => exact (Reps.none _ _)); intro vl10 wl10 hol10 hbl10 hgl10 hnl10) | ((with_reducible refine gate_builtin (b := .append) (xs := #[.tmp 125, .tmp 126]) rfl ?_); at_builtin; refine Kd.R_append_rows (Kd.int .u64) (w0 := wz) wz.heap.size rfl (.tmp 125) (.tmp 126) 42 23 (.int .u64 0) 8 rfl Try.underlying42 info23 rfl (by decide) (by omega) vl10 [] l _ _ _ (fun _ => True) (fun _ => False) rfl rfl ?aO ?aR (fun _ _ h => h) (fun _ h => h.elim) ?aF ?aB ?aS ?aL ?_; (case aR => exact Kd.C_below (Kd.C_below HC.out HB9.out) hbl10); (case aB => exact hbl10); (case aF => exact fun _ _ => trivial); (case aO => exact hol10); (case aS => exact below_size hbl10); (case aL => simp; omega); intro v2 w10 ho2 hb2 hg2 hat2; have hso : ∃ b, v2.ownBlock = some b := (by obtain ⟨b0, hb0, _⟩ := hnl10; rcases hat2 with h | ⟨b2, h, _⟩; exact ⟨b0, h.trans hb0⟩; exact ⟨b2, h⟩); obtain ⟨Ax, cu, e2⟩ := Kd.R_slice ho2; subst e2; obtain ⟨bx, hbx⟩ := hso; obtain ⟨gu, eg⟩ := R_someB ho2 hbx; subst eg; have Hu10 := Lib.hid (show Kd.R (Kd.int .u64) 23 w10 wz.heap.size (fun _ => True) (.slice (some ⟨gu, 0, none⟩) l.length cu) l from ho2); have hleu := Lib.hid (below_size HB9.out); have HB10 := Lib.hid (below_step HB9.out hb2); have Hb10 := Lib.hid (R_carry Hb9.out hb2); have nebu := Lib.hid (show gb ≠ gu from by have := R_lt2 Hb9.out; have := Kd.R_base Hu10.out gu rfl; omega); have Hc10 := Lib.hid (R_carry Hc9.out hb2); have necu := Lib.hid (show gc ≠ gu from by have := R_lt2 Hc9.out; have := Kd.R_base Hu10.out gu rfl; omega); clear hol10 hbl10 hgl10 hnl10 ho2 hb2 hg2 hat2 hbx))
  go_wp2_with fail
  go_loopw [26] (fun i wru => ∃ j : Nat, j ≤ cnt true K ∧ i = .int .u64 j ∧ Kd.R (Kd.int .u64) 23 wru wz.heap.size (fun _ => True) (.slice (some ⟨gu, 0, none⟩) l.length cu) (filY l D v j) ∧ w10.grownBy wru (some gu)) (fun i _ => K - (intOf i).toNat)
  case atStart =>
    refine ⟨0, Nat.zero_le _, rfl, ?_, World.grownBy.refl _ _⟩
    rw [filY_0]
    exact Hu10.out
  case round =>
    obtain ⟨wru, rfl⟩ : ∃ x, x = wr := ⟨wr, rfl⟩
    obtain ⟨j, hj, rfl, hRk, hg⟩ := hrel
    have HK := Lib.hid hRk
    have HG := Lib.hid hg
    clear hRk hg
    have hj2 : j ≤ K := hj
    by_cases hlt : j < K
    · exact absurd hlt (by omega)
    obtain rfl : K = j := by omega
    clear hlt hj hj2
    have HB11 := Lib.hid (below_own HB10.out Hu10.out hleu.out HG.out)
    have Hb11 := Lib.hid (R_other Hb10.out HG.out (by first | exact nebu.out | exact neub.out.symm))
    have Hc11 := Lib.hid (R_other Hc10.out HG.out (by first | exact necu.out | exact neuc.out.symm))
    have Hu11 := Lib.hid HK.out
    go_wp2_with fail
    have ra := Kd.R_reads' Hb11.out
    have rt := Kd.R_reads' Hu11.out
    refine (same_c _ _ cb cu l.length (filY l D v K) _ (filY_len l D v K hf) (by omega) ra.2.2 ra.2.1 rt.2.2 rt.2.1).mono ?_
    rintro e wq12 ⟨rfl, ⟨nq12, rfl⟩⟩
    clear ra rt
    have HB13 := Lib.hid (pw_below_drewN HB11.out nq12)
    have Hc13 := Lib.hid (Kd.R_drewN Hc11.out nq12)
    generalize wru.drewN nq12 = w13 at HB13 Hc13 ⊢
    go_upto_region 27 with (first | ((with_reducible refine gate_dst (N := 152) rfl ?_); refine Kd.R_lit (Kd.int .u64) _ 23 ?hg (N := 152) ?hd (xs := ([] : List Int)) (inner := []) (ok := fun _ => True) (okp := fun _ => True) ?hr ?hp (fun _ hk => hk) trivial (Below.refl _ _) (Nat.le_refl _) (by simp) ?_; (case hd => rfl); (case hg => rfl); (case hr => first | (go_simp; done) | (go_simp; rfl)); (case hp => exact (Reps.none _ _)); intro vl14 wl14 hol14 hbl14 hgl14 hnl14) | ((with_reducible refine gate_builtin (b := .append) (xs := #[.tmp 152, .tmp 153]) rfl ?_); at_builtin; refine Kd.R_append_rows (Kd.int .u64) (w0 := w13) w13.heap.size rfl (.tmp 152) (.tmp 153) 42 23 (.int .u64 0) 8 rfl Try.underlying42 info23 rfl (by decide) (by omega) vl14 [] m _ _ _ (fun _ => True) (fun _ => False) rfl rfl ?aO ?aR (fun _ _ h => h) (fun _ h => h.elim) ?aF ?aB ?aS ?aL ?_; (case aR => exact Kd.C_below (Kd.C_below HM.out HB13.out) hbl14); (case aB => exact hbl14); (case aF => exact fun _ _ => trivial); (case aO => exact hol14); (case aS => exact below_size hbl14); (case aL => simp; omega); intro v2 w14 ho2 hb2 hg2 hat2; have hso : ∃ b, v2.ownBlock = some b := (by obtain ⟨b0, hb0, _⟩ := hnl14; rcases hat2 with h | ⟨b2, h, _⟩; exact ⟨b0, h.trans hb0⟩; exact ⟨b2, h⟩); obtain ⟨Ax, cq, e2⟩ := Kd.R_slice ho2; subst e2; obtain ⟨bx, hbx⟩ := hso; obtain ⟨gq, eg⟩ := R_someB ho2 hbx; subst eg; have Hq14 := Lib.hid (show Kd.R (Kd.int .u64) 23 w14 w13.heap.size (fun _ => True) (.slice (some ⟨gq, 0, none⟩) m.length cq) m from ho2); have hleq := Lib.hid (below_size HB13.out); have HB14 := Lib.hid (below_step HB13.out hb2); have Hc14 := Lib.hid (R_carry Hc13.out hb2); have necq := Lib.hid (show gc ≠ gq from by have := R_lt2 Hc13.out; have := Kd.R_base Hq14.out gq rfl; omega); clear hol14 hbl14 hgl14 hnl14 ho2 hb2 hg2 hat2 hbx))
    go_wp2_with fail
    refine (fitsr_c m.length S K _ (by omega) false i4).mono ?_
    rintro e wf2 ⟨rfl, ⟨nf2, rfl⟩⟩
    have HB15 := Lib.hid (pw_below_drewN HB14.out nf2)
    have Hc15 := Lib.hid (Kd.R_drewN Hc14.out nf2)
    have Hq15 := Lib.hid (Kd.R_drewN Hq14.out nf2)
    generalize w14.drewN nf2 = w15 at HB15 Hc15 Hq15 ⊢
    go_wp2_with fail
    have i5 : (decide (D + K ≤ l.length) && decide (S + K ≤ m.length)) = false := by rw [i3, i4]; rfl
    have rq := Kd.R_reads' Hq15.out
    refine (copy_c gc cc cq l m _ _ _ d s n D S K false _ Hc15.out rq.2.2 rq.2.1 bd bs bn i5).mono ?_
    rintro e wy ⟨rfl, hRy, hGy⟩
    have HB16 := Lib.hid (below_own HB15.out Hc15.out hlec.out hGy)
    have Hc16 := Lib.hid hRy
    have Hq16 := Lib.hid (R_other Hq15.out hGy (by first | exact neqc.out | exact necq.out.symm))
    clear hRy hGy rq i5
    dsimp only [okOr, cond_true, cond_false]
    go_upto_region 30 with (first | ((with_reducible refine gate_dst (N := 169) rfl ?_); refine Kd.R_lit (Kd.int .u64) _ 23 ?hg (N := 169) ?hd (xs := ([] : List Int)) (inner := []) (ok := fun _ => True) (okp := fun _ => True) ?hr ?hp (fun _ hk => hk) trivial (Below.refl _ _) (Nat.le_refl _) (by simp) ?_; (case hd => rfl); (case hg => rfl); (case hr => first | (go_simp; done) | (go_simp; rfl)); (case hp => exact (Reps.none _ _)); intro vl17 wl17 hol17 hbl17 hgl17 hnl17) | ((with_reducible refine gate_builtin (b := .append) (xs := #[.tmp 169, .tmp 170]) rfl ?_); at_builtin; refine Kd.R_append_rows (Kd.int .u64) (w0 := wy) wy.heap.size rfl (.tmp 169) (.tmp 170) 42 23 (.int .u64 0) 8 rfl Try.underlying42 info23 rfl (by decide) (by omega) vl17 [] l _ _ _ (fun _ => True) (fun _ => False) rfl rfl ?aO ?aR (fun _ _ h => h) (fun _ h => h.elim) ?aF ?aB ?aS ?aL ?_; (case aR => exact Kd.C_below (Kd.C_below HC.out HB16.out) hbl17); (case aB => exact hbl17); (case aF => exact fun _ _ => trivial); (case aO => exact hol17); (case aS => exact below_size hbl17); (case aL => simp; omega); intro v2 w17 ho2 hb2 hg2 hat2; have hso : ∃ b, v2.ownBlock = some b := (by obtain ⟨b0, hb0, _⟩ := hnl17; rcases hat2 with h | ⟨b2, h, _⟩; exact ⟨b0, h.trans hb0⟩; exact ⟨b2, h⟩); obtain ⟨Ax, cz, e2⟩ := Kd.R_slice ho2; subst e2; obtain ⟨bx, hbx⟩ := hso; obtain ⟨gz, eg⟩ := R_someB ho2 hbx; subst eg; have Hz17 := Lib.hid (show Kd.R (Kd.int .u64) 23 w17 wy.heap.size (fun _ => True) (.slice (some ⟨gz, 0, none⟩) l.length cz) l from ho2); have hlez := Lib.hid (below_size HB16.out); have HB17 := Lib.hid (below_step HB16.out hb2); have Hc17 := Lib.hid (R_carry Hc16.out hb2); have necz := Lib.hid (show gc ≠ gz from by have := R_lt2 Hc16.out; have := Kd.R_base Hz17.out gz rfl; omega); have Hq17 := Lib.hid (R_carry Hq16.out hb2); have neqz := Lib.hid (show gq ≠ gz from by have := R_lt2 Hq16.out; have := Kd.R_base Hz17.out gz rfl; omega); clear hol17 hbl17 hgl17 hnl17 ho2 hb2 hg2 hat2 hbx))
    go_wp2_with fail
    go_loopw [29] (fun i wrz => ∃ j : Nat, j ≤ cnt false K ∧ i = .int .u64 j ∧ Kd.R (Kd.int .u64) 23 wrz wy.heap.size (fun _ => True) (.slice (some ⟨gz, 0, none⟩) l.length cz) (copY l m D S j) ∧ w17.grownBy wrz (some gz)) (fun i _ => K - (intOf i).toNat)
    case atStart =>
      refine ⟨0, Nat.zero_le _, rfl, ?_, World.grownBy.refl _ _⟩
      rw [copY_0]
      exact Hz17.out
    case round =>
      obtain ⟨wrz, rfl⟩ : ∃ x, x = wr := ⟨wr, rfl⟩
      obtain ⟨j, hj, rfl, hRk, hg⟩ := hrel
      have HK := Lib.hid hRk
      have HG := Lib.hid hg
      clear hRk hg
      obtain rfl : j = 0 := by have : j ≤ 0 := hj; omega
      clear hj
      have HB18 := Lib.hid (below_own HB17.out Hz17.out hlez.out HG.out)
      have Hc18 := Lib.hid (R_other Hc17.out HG.out (by first | exact necz.out | exact nezc.out.symm))
      have Hq18 := Lib.hid (R_other Hq17.out HG.out (by first | exact neqz.out | exact nezq.out.symm))
      have Hz18 := Lib.hid HK.out
      go_wp2_with fail
      have ra := Kd.R_reads' Hc18.out
      have rt := Kd.R_reads' Hz18.out
      refine (same_c _ _ cc cz l.length (copY l m D S 0) _ (by rw [copY_0]) (by omega) ra.2.2 ra.2.1 rt.2.2 rt.2.1).mono ?_
      rintro e wq19 ⟨rfl, ⟨nq19, rfl⟩⟩
      clear ra rt
      have HB20 := Lib.hid (pw_below_drewN HB18.out nq19)
      have Hq20 := Lib.hid (Kd.R_drewN Hq18.out nq19)
      generalize wrz.drewN nq19 = w20 at HB20 Hq20 ⊢
      go_wp2_with fail
      have ra := Kd.R_reads' Hq20.out
      refine (same_c _ _ cq c2 m.length (m) _ rfl (by omega) ra.2.2 ra.2.1 (Kd.C_below HM.out HB20.out) hc2).mono ?_
      rintro e wq21 ⟨rfl, ⟨nq21, rfl⟩⟩
      clear ra
      have HB22 := Lib.hid (pw_below_drewN HB20.out nq21)
      have Hq22 := Lib.hid (Kd.R_drewN Hq20.out nq21)
      generalize w20.drewN nq21 = w22 at HB22 Hq22 ⊢
      go_wp2
      go_ret
      exact ⟨rfl, HB22.out⟩
end Go.Proofs.Ytfjnhdbbjggkmaa.Mem
