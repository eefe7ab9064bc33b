/- The law TableAll: its call answers true. -/
import Derived.Test.YtfjnhdbbjggkmaaAllX
import Derived.Deep.QuietTactic
import Derived.BigQuiet
import Derived.Lib.Hide
set_option linter.unusedVariables false
set_option linter.unusedSimpArgs false
namespace Go.Proofs.Ytfjnhdbbjggkmaa.Mem
open Go.RowKit Go.Proofs.YtfjnhdbbjggkmaaW.PrintWords Go.Proofs.YtfjnhdbbjggkmaaW.PrintLast Go.Proofs.YtfjnhdbbjggkmaaW.PrintMore Go.Proofs.Ytfjnhdbbjggkmaa.PTableAll
set_option maxRecDepth 100000 in
set_option maxHeartbeats 4000000 in
theorem ta_fft (A B : Option Addr) (c1 c2 : Nat) (l m : List Int) (d s n v : Int) (D S K : Nat) (W : World) (r1 : 0 ≤ d ∧ d ≤ 18446744073709551615) (r2 : 0 ≤ s ∧ s ≤ 18446744073709551615) (r3 : 0 ≤ n ∧ n ≤ 18446744073709551615) (r4 : 0 ≤ v ∧ v ≤ 18446744073709551615)
    (hd : d % 4294967296 = D) (hs : s % 4294967296 = S) (hn : n % 4294967296 = K) (bd : Go.bits .and .u64 d 4294967295 = D) (bs : Go.bits .and .u64 s 4294967295 = S) (bn : Go.bits .and .u64 n 4294967295 = K) (hl20 : l.length ≤ 20) (hm20 : m.length ≤ 20)
    (hi : l.length ≤ D) (hf : l.length < D + K) (hf2 : S + K ≤ m.length)
    (hC : Kd.C (Kd.int .u64) W A l.length l) (hM : Kd.C (Kd.int .u64) W B m.length m) (hc1 : l.length ≤ c1) (hc2 : m.length ≤ c2) :
    Calls Try.prog 8 #[.slice A l.length c1, .slice B m.length c2, .int .u64 d, .int .u64 s, .int .u64 n, .int .u64 v] W fun e W' => e = .returned (.bool true) ∧ Below W.heap.size W W' := by
  have HC := Lib.hid hC
  have HM := Lib.hid hM
  clear hC hM
  have i1 : decide ((D : Int) < (l.length : Int)) = false := decide_eq_false (by omega)
  have i2 : decide (D < l.length) = false := decide_eq_false (by omega)
  have i3 : decide (D + K ≤ l.length) = false := decide_eq_false (by omega)
  have i4 : decide (S + K ≤ m.length) = true := decide_eq_true (by omega)
  go_enter Try.func8, Try.ntmps8
  go_wp2_with fail
  refine (begun15 _).mono ?_
  rintro e w0 ⟨rfl, hb⟩
  have HB0 := Lib.hid hb
  clear hb
  go_wp2_with fail
  refine (get_no A c1 l d D _ (Kd.C_below HC.out HB0.out) hc1 bd hi).mono ?_
  rintro e wg ⟨rfl, ⟨ng, rfl⟩⟩
  have HB1 := Lib.hid (pw_below_drewN HB0.out ng)
  generalize w0.drewN ng = w1 at HB1 ⊢
  go_upto_region 11 with (first | ((with_reducible refine gate_dst (N := 84) rfl ?_); refine Kd.R_lit (Kd.int .u64) _ 23 ?hg (N := 84) ?hd (xs := ([] : List Int)) (inner := []) (ok := fun _ => True) (okp := fun _ => True) ?hr ?hp (fun _ hk => hk) trivial (Below.refl _ _) (Nat.le_refl _) (by simp) ?_; (case hd => rfl); (case hg => rfl); (case hr => first | (go_simp; done) | (go_simp; rfl)); (case hp => exact (Reps.none _ _)); intro vl2 wl2 hol2 hbl2 hgl2 hnl2) | ((with_reducible refine gate_builtin (b := .append) (xs := #[.tmp 84, .tmp 85]) rfl ?_); at_builtin; refine Kd.R_append_rows (Kd.int .u64) (w0 := w1) w1.heap.size rfl (.tmp 84) (.tmp 85) 42 23 (.int .u64 0) 8 rfl Try.underlying42 info23 rfl (by decide) (by omega) vl2 [] l _ _ _ (fun _ => True) (fun _ => False) rfl rfl ?aO ?aR (fun _ _ h => h) (fun _ h => h.elim) ?aF ?aB ?aS ?aL ?_; (case aR => exact Kd.C_below (Kd.C_below HC.out HB1.out) hbl2); (case aB => exact hbl2); (case aF => exact fun _ _ => trivial); (case aO => exact hol2); (case aS => exact below_size hbl2); (case aL => simp; omega); intro v2 w2 ho2 hb2 hg2 hat2; have hso : ∃ b, v2.ownBlock = some b := (by obtain ⟨b0, hb0, _⟩ := hnl2; rcases hat2 with h | ⟨b2, h, _⟩; exact ⟨b0, h.trans hb0⟩; exact ⟨b2, h⟩); obtain ⟨Ax, ca, e2⟩ := Kd.R_slice ho2; subst e2; obtain ⟨bx, hbx⟩ := hso; obtain ⟨ga, eg⟩ := R_someB ho2 hbx; subst eg; have Ha2 := Lib.hid (show Kd.R (Kd.int .u64) 23 w2 w1.heap.size (fun _ => True) (.slice (some ⟨ga, 0, none⟩) l.length ca) l from ho2); have hlea := Lib.hid (below_size HB1.out); have HB2 := Lib.hid (below_step HB1.out hb2); clear hol2 hbl2 hgl2 hnl2 ho2 hb2 hg2 hat2 hbx) | ((with_reducible refine gate_dst (N := 87) rfl ?_); refine Kd.R_lit (Kd.int .u64) _ 23 ?hg (N := 87) ?hd (xs := ([] : List Int)) (inner := []) (ok := fun _ => True) (okp := fun _ => True) ?hr ?hp (fun _ hk => hk) trivial (Below.refl _ _) (Nat.le_refl _) (by simp) ?_; (case hd => rfl); (case hg => rfl); (case hr => first | (go_simp; done) | (go_simp; rfl)); (case hp => exact (Reps.none _ _)); intro vl3 wl3 hol3 hbl3 hgl3 hnl3) | ((with_reducible refine gate_builtin (b := .append) (xs := #[.tmp 87, .tmp 88]) rfl ?_); at_builtin; refine Kd.R_append_rows (Kd.int .u64) (w0 := w2) w2.heap.size rfl (.tmp 87) (.tmp 88) 42 23 (.int .u64 0) 8 rfl Try.underlying42 info23 rfl (by decide) (by omega) vl3 [] l _ _ _ (fun _ => True) (fun _ => False) rfl rfl ?aO ?aR (fun _ _ h => h) (fun _ h => h.elim) ?aF ?aB ?aS ?aL ?_; (case aR => exact Kd.C_below (Kd.C_below HC.out HB2.out) hbl3); (case aB => exact hbl3); (case aF => exact fun _ _ => trivial); (case aO => exact hol3); (case aS => exact below_size hbl3); (case aL => simp; omega); intro v2 w3 ho2 hb2 hg2 hat2; have hso : ∃ b, v2.ownBlock = some b := (by obtain ⟨b0, hb0, _⟩ := hnl3; rcases hat2 with h | ⟨b2, h, _⟩; exact ⟨b0, h.trans hb0⟩; exact ⟨b2, h⟩); obtain ⟨Ax, cb, e2⟩ := Kd.R_slice ho2; subst e2; obtain ⟨bx, hbx⟩ := hso; obtain ⟨gb, eg⟩ := R_someB ho2 hbx; subst eg; have Hb3 := Lib.hid (show Kd.R (Kd.int .u64) 23 w3 w2.heap.size (fun _ => True) (.slice (some ⟨gb, 0, none⟩) l.length cb) l from ho2); have hleb := Lib.hid (below_size HB2.out); have HB3 := Lib.hid (below_step HB2.out hb2); have Ha3 := Lib.hid (R_carry Ha2.out hb2); have neab := Lib.hid (show ga ≠ gb from by have := R_lt2 Ha2.out; have := Kd.R_base Hb3.out gb rfl; omega); clear hol3 hbl3 hgl3 hnl3 ho2 hb2 hg2 hat2 hbx) | ((with_reducible refine gate_dst (N := 90) rfl ?_); refine Kd.R_lit (Kd.int .u64) _ 23 ?hg (N := 90) ?hd (xs := ([] : List Int)) (inner := []) (ok := fun _ => True) (okp := fun _ => True) ?hr ?hp (fun _ hk => hk) trivial (Below.refl _ _) (Nat.le_refl _) (by simp) ?_; (case hd => rfl); (case hg => rfl); (case hr => first | (go_simp; done) | (go_simp; rfl)); (case hp => exact (Reps.none _ _)); intro vl4 wl4 hol4 hbl4 hgl4 hnl4) | ((with_reducible refine gate_builtin (b := .append) (xs := #[.tmp 90, .tmp 91]) rfl ?_); at_builtin; refine Kd.R_append_rows (Kd.int .u64) (w0 := w3) w3.heap.size rfl (.tmp 90) (.tmp 91) 42 23 (.int .u64 0) 8 rfl Try.underlying42 info23 rfl (by decide) (by omega) vl4 [] l _ _ _ (fun _ => True) (fun _ => False) rfl rfl ?aO ?aR (fun _ _ h => h) (fun _ h => h.elim) ?aF ?aB ?aS ?aL ?_; (case aR => exact Kd.C_below (Kd.C_below HC.out HB3.out) hbl4); (case aB => exact hbl4); (case aF => exact fun _ _ => trivial); (case aO => exact hol4); (case aS => exact below_size hbl4); (case aL => simp; omega); intro v2 w4 ho2 hb2 hg2 hat2; have hso : ∃ b, v2.ownBlock = some b := (by obtain ⟨b0, hb0, _⟩ := hnl4; rcases hat2 with h | ⟨b2, h, _⟩; exact ⟨b0, h.trans hb0⟩; exact ⟨b2, h⟩); obtain ⟨Ax, cc, e2⟩ := Kd.R_slice ho2; subst e2; obtain ⟨bx, hbx⟩ := hso; obtain ⟨gc, eg⟩ := R_someB ho2 hbx; subst eg; have Hc4 := Lib.hid (show Kd.R (Kd.int .u64) 23 w4 w3.heap.size (fun _ => True) (.slice (some ⟨gc, 0, none⟩) l.length cc) l from ho2); have hlec := Lib.hid (below_size HB3.out); have HB4 := Lib.hid (below_step HB3.out hb2); have Ha4 := Lib.hid (R_carry Ha3.out hb2); have neac := Lib.hid (show ga ≠ gc from by have := R_lt2 Ha3.out; have := Kd.R_base Hc4.out gc rfl; omega); have Hb4 := Lib.hid (R_carry Hb3.out hb2); have nebc := Lib.hid (show gb ≠ gc from by have := R_lt2 Hb3.out; have := Kd.R_base Hc4.out gc rfl; omega); clear hol4 hbl4 hgl4 hnl4 ho2 hb2 hg2 hat2 hbx))
  go_wp2_with fail
  refine (set_c ga ca l _ _ d v D false _ Ha4.out bd i2).mono ?_
  rintro e ws ⟨rfl, hRs, hGs⟩
  have HB5 := Lib.hid (below_own HB4.out Ha4.out hlea.out hGs)
  have Ha5 := Lib.hid hRs
  have Hb5 := Lib.hid (R_other Hb4.out hGs (by first | exact neba.out | exact neab.out.symm))
  have Hc5 := Lib.hid (R_other Hc4.out hGs (by first | exact neca.out | exact neac.out.symm))
  clear hRs hGs
  dsimp only [okOr, cond_true, cond_false]
  go_upto_region 13 with (first | ((with_reducible refine gate_dst (N := 97) rfl ?_); refine Kd.R_lit (Kd.int .u64) _ 23 ?hg (N := 97) ?hd (xs := ([] : List Int)) (inner := []) (ok := fun _ => True) (okp := fun _ => True) ?hr ?hp (fun _ hk => hk) trivial (Below.refl _ _) (Nat.le_refl _) (by simp) ?_; (case hd => rfl); (case hg => rfl); (case hr => first | (go_simp; done) | (go_simp; rfl)); (case hp => exact (Reps.none _ _)); intro vl6 wl6 hol6 hbl6 hgl6 hnl6) | ((with_reducible refine gate_builtin (b := .append) (xs := #[.tmp 97, .tmp 98]) rfl ?_); at_builtin; refine Kd.R_append_rows (Kd.int .u64) (w0 := ws) ws.heap.size rfl (.tmp 97) (.tmp 98) 42 23 (.int .u64 0) 8 rfl Try.underlying42 info23 rfl (by decide) (by omega) vl6 [] l _ _ _ (fun _ => True) (fun _ => False) rfl rfl ?aO ?aR (fun _ _ h => h) (fun _ h => h.elim) ?aF ?aB ?aS ?aL ?_; (case aR => exact Kd.C_below (Kd.C_below HC.out HB5.out) hbl6); (case aB => exact hbl6); (case aF => exact fun _ _ => trivial); (case aO => exact hol6); (case aS => exact below_size hbl6); (case aL => simp; omega); intro v2 w6 ho2 hb2 hg2 hat2; have hso : ∃ b, v2.ownBlock = some b := (by obtain ⟨b0, hb0, _⟩ := hnl6; rcases hat2 with h | ⟨b2, h, _⟩; exact ⟨b0, h.trans hb0⟩; exact ⟨b2, h⟩); obtain ⟨Ax, ct, e2⟩ := Kd.R_slice ho2; subst e2; obtain ⟨bx, hbx⟩ := hso; obtain ⟨gt, eg⟩ := R_someB ho2 hbx; subst eg; have Ht6 := Lib.hid (show Kd.R (Kd.int .u64) 23 w6 ws.heap.size (fun _ => True) (.slice (some ⟨gt, 0, none⟩) l.length ct) l from ho2); have hlet := Lib.hid (below_size HB5.out); have HB6 := Lib.hid (below_step HB5.out hb2); have Ha6 := Lib.hid (R_carry Ha5.out hb2); have neat := Lib.hid (show ga ≠ gt from by have := R_lt2 Ha5.out; have := Kd.R_base Ht6.out gt rfl; omega); have Hb6 := Lib.hid (R_carry Hb5.out hb2); have nebt := Lib.hid (show gb ≠ gt from by have := R_lt2 Hb5.out; have := Kd.R_base Ht6.out gt rfl; omega); have Hc6 := Lib.hid (R_carry Hc5.out hb2); have nect := Lib.hid (show gc ≠ gt from by have := R_lt2 Hc5.out; have := Kd.R_base Ht6.out gt rfl; omega); clear hol6 hbl6 hgl6 hnl6 ho2 hb2 hg2 hat2 hbx))
  have hset : l.set D v = l := List.set_eq_of_length_le hi
  have HSE := Lib.hid hset
  clear hset
  go_wp2_with fail
  have ra := Kd.R_reads' Ha6.out
  have rt := Kd.R_reads' Ht6.out
  rw [HSE.out] at ra
  refine (same_c _ _ ca ct l.length l _ rfl (by omega) ra.2.2 ra.2.1 rt.2.2 rt.2.1).mono ?_
  rintro e wq ⟨rfl, ⟨nq1, rfl⟩⟩
  clear ra rt
  have HB7 := Lib.hid (pw_below_drewN HB6.out nq1)
  have Hb7 := Lib.hid (Kd.R_drewN Hb6.out nq1)
  have Hc7 := Lib.hid (Kd.R_drewN Hc6.out nq1)
  generalize w6.drewN nq1 = w7 at HB7 Hb7 Hc7 ⊢
  go_wp2_with fail
  refine (fitsr_c l.length D K _ (by omega) false i3).mono ?_
  rintro e wf ⟨rfl, ⟨nf, rfl⟩⟩
  have HB8 := Lib.hid (pw_below_drewN HB7.out nf)
  have Hb8 := Lib.hid (Kd.R_drewN Hb7.out nf)
  have Hc8 := Lib.hid (Kd.R_drewN Hc7.out nf)
  generalize w7.drewN nf = w8 at HB8 Hb8 Hc8 ⊢
  go_wp2_with fail
  refine (fill_c gb cb l _ _ d v n D K false _ Hb8.out bd bn i3).mono ?_
  rintro e wz ⟨rfl, hRz, hGz⟩
  have HB9 := Lib.hid (below_own HB8.out Hb8.out hleb.out hGz)
  have Hb9 := Lib.hid hRz
  have Hc9 := Lib.hid (R_other Hc8.out hGz (by first | exact necb.out | exact nebc.out.symm))
  clear hRz hGz
  dsimp only [okOr, cond_true, cond_false]
  go_upto_region 20 with (first | ((with_reducible refine gate_dst (N := 125) rfl ?_); refine Kd.R_lit (Kd.int .u64) _ 23 ?hg (N := 125) ?hd (xs := ([] : List Int)) (inner := []) (ok := fun _ => True) (okp := fun _ => True) ?hr ?hp (fun _ hk => hk) trivial (Below.refl _ _) (Nat.le_refl _) (by simp) ?_; (case hd => rfl); (case hg => rfl); (case hr => first | (go_simp; done) | (go_simp; rfl)); (case hp => exact (Reps.none _ _)); intro vl10 wl10 hol10 hbl10 hgl10 hnl10) | ((with_reducible refine gate_builtin (b := .append) (xs := #[.tmp 125, .tmp 126]) rfl ?_); at_builtin; refine Kd.R_append_rows (Kd.int .u64) (w0 := wz) wz.heap.size rfl (.tmp 125) (.tmp 126) 42 23 (.int .u64 0) 8 rfl Try.underlying42 info23 rfl (by decide) (by omega) vl10 [] l _ _ _ (fun _ => True) (fun _ => False) rfl rfl ?aO ?aR (fun _ _ h => h) (fun _ h => h.elim) ?aF ?aB ?aS ?aL ?_; (case aR => exact Kd.C_below (Kd.C_below HC.out HB9.out) hbl10); (case aB => exact hbl10); (case aF => exact fun _ _ => trivial); (case aO => exact hol10); (case aS => exact below_size hbl10); (case aL => simp; omega); intro v2 w10 ho2 hb2 hg2 hat2; have hso : ∃ b, v2.ownBlock = some b := (by obtain ⟨b0, hb0, _⟩ := hnl10; rcases hat2 with h | ⟨b2, h, _⟩; exact ⟨b0, h.trans hb0⟩; exact ⟨b2, h⟩); obtain ⟨Ax, cu, e2⟩ := Kd.R_slice ho2; subst e2; obtain ⟨bx, hbx⟩ := hso; obtain ⟨gu, eg⟩ := R_someB ho2 hbx; subst eg; have Hu10 := Lib.hid (show Kd.R (Kd.int .u64) 23 w10 wz.heap.size (fun _ => True) (.slice (some ⟨gu, 0, none⟩) l.length cu) l from ho2); have hleu := Lib.hid (below_size HB9.out); have HB10 := Lib.hid (below_step HB9.out hb2); have Hb10 := Lib.hid (R_carry Hb9.out hb2); have nebu := Lib.hid (show gb ≠ gu from by have := R_lt2 Hb9.out; have := Kd.R_base Hu10.out gu rfl; omega); have Hc10 := Lib.hid (R_carry Hc9.out hb2); have necu := Lib.hid (show gc ≠ gu from by have := R_lt2 Hc9.out; have := Kd.R_base Hu10.out gu rfl; omega); clear hol10 hbl10 hgl10 hnl10 ho2 hb2 hg2 hat2 hbx))
  go_wp2_with fail
  go_loopw [26] (fun i wru => ∃ j : Nat, j ≤ cnt false K ∧ i = .int .u64 j ∧ Kd.R (Kd.int .u64) 23 wru wz.heap.size (fun _ => True) (.slice (some ⟨gu, 0, none⟩) l.length cu) (filY l D v j) ∧ w10.grownBy wru (some gu)) (fun i _ => K - (intOf i).toNat)
  case atStart =>
    refine ⟨0, Nat.zero_le _, rfl, ?_, World.grownBy.refl _ _⟩
    rw [filY_0]
    exact Hu10.out
  case round =>
    obtain ⟨wru, rfl⟩ : ∃ x, x = wr := ⟨wr, rfl⟩
    obtain ⟨j, hj, rfl, hRk, hg⟩ := hrel
    have HK := Lib.hid hRk
    have HG := Lib.hid hg
    clear hRk hg
    obtain rfl : j = 0 := by have : j ≤ 0 := hj; omega
    clear hj
    have HB11 := Lib.hid (below_own HB10.out Hu10.out hleu.out HG.out)
    have Hb11 := Lib.hid (R_other Hb10.out HG.out (by first | exact nebu.out | exact neub.out.symm))
    have Hc11 := Lib.hid (R_other Hc10.out HG.out (by first | exact necu.out | exact neuc.out.symm))
    have Hu11 := Lib.hid HK.out
    go_wp2_with fail
    have ra := Kd.R_reads' Hb11.out
    have rt := Kd.R_reads' Hu11.out
    refine (same_c _ _ cb cu l.length (filY l D v 0) _ (by rw [filY_0]) (by omega) ra.2.2 ra.2.1 rt.2.2 rt.2.1).mono ?_
    rintro e wq12 ⟨rfl, ⟨nq12, rfl⟩⟩
    clear ra rt
    have HB13 := Lib.hid (pw_below_drewN HB11.out nq12)
    have Hc13 := Lib.hid (Kd.R_drewN Hc11.out nq12)
    generalize wru.drewN nq12 = w13 at HB13 Hc13 ⊢
    go_upto_region 27 with (first | ((with_reducible refine gate_dst (N := 152) rfl ?_); refine Kd.R_lit (Kd.int .u64) _ 23 ?hg (N := 152) ?hd (xs := ([] : List Int)) (inner := []) (ok := fun _ => True) (okp := fun _ => True) ?hr ?hp (fun _ hk => hk) trivial (Below.refl _ _) (Nat.le_refl _) (by simp) ?_; (case hd => rfl); (case hg => rfl); (case hr => first | (go_simp; done) | (go_simp; rfl)); (case hp => exact (Reps.none _ _)); intro vl14 wl14 hol14 hbl14 hgl14 hnl14) | ((with_reducible refine gate_builtin (b := .append) (xs := #[.tmp 152, .tmp 153]) rfl ?_); at_builtin; refine Kd.R_append_rows (Kd.int .u64) (w0 := w13) w13.heap.size rfl (.tmp 152) (.tmp 153) 42 23 (.int .u64 0) 8 rfl Try.underlying42 info23 rfl (by decide) (by omega) vl14 [] m _ _ _ (fun _ => True) (fun _ => False) rfl rfl ?aO ?aR (fun _ _ h => h) (fun _ h => h.elim) ?aF ?aB ?aS ?aL ?_; (case aR => exact Kd.C_below (Kd.C_below HM.out HB13.out) hbl14); (case aB => exact hbl14); (case aF => exact fun _ _ => trivial); (case aO => exact hol14); (case aS => exact below_size hbl14); (case aL => simp; omega); intro v2 w14 ho2 hb2 hg2 hat2; have hso : ∃ b, v2.ownBlock = some b := (by obtain ⟨b0, hb0, _⟩ := hnl14; rcases hat2 with h | ⟨b2, h, _⟩; exact ⟨b0, h.trans hb0⟩; exact ⟨b2, h⟩); obtain ⟨Ax, cq, e2⟩ := Kd.R_slice ho2; subst e2; obtain ⟨bx, hbx⟩ := hso; obtain ⟨gq, eg⟩ := R_someB ho2 hbx; subst eg; have Hq14 := Lib.hid (show Kd.R (Kd.int .u64) 23 w14 w13.heap.size (fun _ => True) (.slice (some ⟨gq, 0, none⟩) m.length cq) m from ho2); have hleq := Lib.hid (below_size HB13.out); have HB14 := Lib.hid (below_step HB13.out hb2); have Hc14 := Lib.hid (R_carry Hc13.out hb2); have necq := Lib.hid (show gc ≠ gq from by have := R_lt2 Hc13.out; have := Kd.R_base Hq14.out gq rfl; omega); clear hol14 hbl14 hgl14 hnl14 ho2 hb2 hg2 hat2 hbx))
    go_wp2_with fail
    have i5 : (decide (D + K ≤ l.length) && decide (S + K ≤ m.length)) = false := by rw [i3, i4]; rfl
    have rq := Kd.R_reads' Hq14.out
    refine (copy_c gc cc cq l m _ _ _ d s n D S K false _ Hc14.out rq.2.2 rq.2.1 bd bs bn i5).mono ?_
    rintro e wy ⟨rfl, hRy, hGy⟩
    have HB15 := Lib.hid (below_own HB14.out Hc14.out hlec.out hGy)
    have Hc15 := Lib.hid hRy
    have Hq15 := Lib.hid (R_other Hq14.out hGy (by first | exact neqc.out | exact necq.out.symm))
    clear hRy hGy rq i5
    dsimp only [okOr, cond_true, cond_false]
    go_upto_region 30 with (first | ((with_reducible refine gate_dst (N := 169) rfl ?_); refine Kd.R_lit (Kd.int .u64) _ 23 ?hg (N := 169) ?hd (xs := ([] : List Int)) (inner := []) (ok := fun _ => True) (okp := fun _ => True) ?hr ?hp (fun _ hk => hk) trivial (Below.refl _ _) (Nat.le_refl _) (by simp) ?_; (case hd => rfl); (case hg => rfl); (case hr => first | (go_simp; done) | (go_simp; rfl)); (case hp => exact (Reps.none _ _)); intro vl16 wl16 hol16 hbl16 hgl16 hnl16) | ((with_reducible refine gate_builtin (b := .append) (xs := #[.tmp 169, .tmp 170]) rfl ?_); at_builtin; refine Kd.R_append_rows (Kd.int .u64) (w0 := wy) wy.heap.size rfl (.tmp 169) (.tmp 170) 42 23 (.int .u64 0) 8 rfl Try.underlying42 info23 rfl (by decide) (by omega) vl16 [] l _ _ _ (fun _ => True) (fun _ => False) rfl rfl ?aO ?aR (fun _ _ h => h) (fun _ h => h.elim) ?aF ?aB ?aS ?aL ?_; (case aR => exact Kd.C_below (Kd.C_below HC.out HB15.out) hbl16); (case aB => exact hbl16); (case aF => exact fun _ _ => trivial); (case aO => exact hol16); (case aS => exact below_size hbl16); (case aL => simp; omega); intro v2 w16 ho2 hb2 hg2 hat2; have hso : ∃ b, v2.ownBlock = some b := (by obtain ⟨b0, hb0, _⟩ := hnl16; rcases hat2 with h | ⟨b2, h, _⟩; exact ⟨b0, h.trans hb0⟩; exact ⟨b2, h⟩); obtain ⟨Ax, cz, e2⟩ := Kd.R_slice ho2; subst e2; obtain ⟨bx, hbx⟩ := hso; obtain ⟨gz, eg⟩ := R_someB ho2 hbx; subst eg; have Hz16 := Lib.hid (show Kd.R (Kd.int .u64) 23 w16 wy.heap.size (fun _ => True) (.slice (some ⟨gz, 0, none⟩) l.length cz) l from ho2); have hlez := Lib.hid (below_size HB15.out); have HB16 := Lib.hid (below_step HB15.out hb2); have Hc16 := Lib.hid (R_carry Hc15.out hb2); have necz := Lib.hid (show gc ≠ gz from by have := R_lt2 Hc15.out; have := Kd.R_base Hz16.out gz rfl; omega); have Hq16 := Lib.hid (R_carry Hq15.out hb2); have neqz := Lib.hid (show gq ≠ gz from by have := R_lt2 Hq15.out; have := Kd.R_base Hz16.out gz rfl; omega); clear hol16 hbl16 hgl16 hnl16 ho2 hb2 hg2 hat2 hbx))
    go_wp2_with fail
    go_loopw [29] (fun i wrz => ∃ j : Nat, j ≤ cnt false K ∧ i = .int .u64 j ∧ Kd.R (Kd.int .u64) 23 wrz wy.heap.size (fun _ => True) (.slice (some ⟨gz, 0, none⟩) l.length cz) (copY l m D S j) ∧ w16.grownBy wrz (some gz)) (fun i _ => K - (intOf i).toNat)
    case atStart =>
      refine ⟨0, Nat.zero_le _, rfl, ?_, World.grownBy.refl _ _⟩
      rw [copY_0]
      exact Hz16.out
    case round =>
      obtain ⟨wrz, rfl⟩ : ∃ x, x = wr := ⟨wr, rfl⟩
      obtain ⟨j, hj, rfl, hRk, hg⟩ := hrel
      have HK := Lib.hid hRk
      have HG := Lib.hid hg
      clear hRk hg
      obtain rfl : j = 0 := by have : j ≤ 0 := hj; omega
      clear hj
      have HB17 := Lib.hid (below_own HB16.out Hz16.out hlez.out HG.out)
      have Hc17 := Lib.hid (R_other Hc16.out HG.out (by first | exact necz.out | exact nezc.out.symm))
      have Hq17 := Lib.hid (R_other Hq16.out HG.out (by first | exact neqz.out | exact nezq.out.symm))
      have Hz17 := Lib.hid HK.out
      go_wp2_with fail
      have ra := Kd.R_reads' Hc17.out
      have rt := Kd.R_reads' Hz17.out
      refine (same_c _ _ cc cz l.length (copY l m D S 0) _ (by rw [copY_0]) (by omega) ra.2.2 ra.2.1 rt.2.2 rt.2.1).mono ?_
      rintro e wq18 ⟨rfl, ⟨nq18, rfl⟩⟩
      clear ra rt
      have HB19 := Lib.hid (pw_below_drewN HB17.out nq18)
      have Hq19 := Lib.hid (Kd.R_drewN Hq17.out nq18)
      generalize wrz.drewN nq18 = w19 at HB19 Hq19 ⊢
      go_wp2_with fail
      have ra := Kd.R_reads' Hq19.out
      refine (same_c _ _ cq c2 m.length (m) _ rfl (by omega) ra.2.2 ra.2.1 (Kd.C_below HM.out HB19.out) hc2).mono ?_
      rintro e wq20 ⟨rfl, ⟨nq20, rfl⟩⟩
      clear ra
      have HB21 := Lib.hid (pw_below_drewN HB19.out nq20)
      have Hq21 := Lib.hid (Kd.R_drewN Hq19.out nq20)
      generalize w19.drewN nq20 = w21 at HB21 Hq21 ⊢
      go_wp2
      go_ret
      exact ⟨rfl, HB21.out⟩
set_option maxRecDepth 100000 in
set_option maxHeartbeats 4000000 in
theorem ta_fff (A B : Option Addr) (c1 c2 : Nat) (l m : List Int) (d s n v : Int) (D S K : Nat) (W : World) (r1 : 0 ≤ d ∧ d ≤ 18446744073709551615) (r2 : 0 ≤ s ∧ s ≤ 18446744073709551615) (r3 : 0 ≤ n ∧ n ≤ 18446744073709551615) (r4 : 0 ≤ v ∧ v ≤ 18446744073709551615)
    (hd : d % 4294967296 = D) (hs : s % 4294967296 = S) (hn : n % 4294967296 = K) (bd : Go.bits .and .u64 d 4294967295 = D) (bs : Go.bits .and .u64 s 4294967295 = S) (bn : Go.bits .and .u64 n 4294967295 = K) (hl20 : l.length ≤ 20) (hm20 : m.length ≤ 20)
    (hi : l.length ≤ D) (hf : l.length < D + K) (hf2 : m.length < S + K)
    (hC : Kd.C (Kd.int .u64) W A l.length l) (hM : Kd.C (Kd.int .u64) W B m.length m) (hc1 : l.length ≤ c1) (hc2 : m.length ≤ c2) :
    Calls Try.prog 8 #[.slice A l.length c1, .slice B m.length c2, .int .u64 d, .int .u64 s, .int .u64 n, .int .u64 v] W fun e W' => e = .returned (.bool true) ∧ Below W.heap.size W W' := by
  have HC := Lib.hid hC
  have HM := Lib.hid hM
  clear hC hM
  have i1 : decide ((D : Int) < (l.length : Int)) = false := decide_eq_false (by omega)
  have i2 : decide (D < l.length) = false := decide_eq_false (by omega)
  have i3 : decide (D + K ≤ l.length) = false := decide_eq_false (by omega)
  have i4 : decide (S + K ≤ m.length) = false := decide_eq_false (by omega)
  go_enter Try.func8, Try.ntmps8
  go_wp2_with fail
  refine (begun15 _).mono ?_
  rintro e w0 ⟨rfl, hb⟩
  have HB0 := Lib.hid hb
  clear hb
  go_wp2_with fail
  refine (get_no A c1 l d D _ (Kd.C_below HC.out HB0.out) hc1 bd hi).mono ?_
  rintro e wg ⟨rfl, ⟨ng, rfl⟩⟩
  have HB1 := Lib.hid (pw_below_drewN HB0.out ng)
  generalize w0.drewN ng = w1 at HB1 ⊢
  go_upto_region 11 with (first | ((with_reducible refine gate_dst (N := 84) rfl ?_); refine Kd.R_lit (Kd.int .u64) _ 23 ?hg (N := 84) ?hd (xs := ([] : List Int)) (inner := []) (ok := fun _ => True) (okp := fun _ => True) ?hr ?hp (fun _ hk => hk) trivial (Below.refl _ _) (Nat.le_refl _) (by simp) ?_; (case hd => rfl); (case hg => rfl); (case hr => first | (go_simp; done) | (go_simp; rfl)); (case hp => exact (Reps.none _ _)); intro vl2 wl2 hol2 hbl2 hgl2 hnl2) | ((with_reducible refine gate_builtin (b := .append) (xs := #[.tmp 84, .tmp 85]) rfl ?_); at_builtin; refine Kd.R_append_rows (Kd.int .u64) (w0 := w1) w1.heap.size rfl (.tmp 84) (.tmp 85) 42 23 (.int .u64 0) 8 rfl Try.underlying42 info23 rfl (by decide) (by omega) vl2 [] l _ _ _ (fun _ => True) (fun _ => False) rfl rfl ?aO ?aR (fun _ _ h => h) (fun _ h => h.elim) ?aF ?aB ?aS ?aL ?_; (case aR => exact Kd.C_below (Kd.C_below HC.out HB1.out) hbl2); (case aB => exact hbl2); (case aF => exact fun _ _ => trivial); (case aO => exact hol2); (case aS => exact below_size hbl2); (case aL => simp; omega); intro v2 w2 ho2 hb2 hg2 hat2; have hso : ∃ b, v2.ownBlock = some b := (by obtain ⟨b0, hb0, _⟩ := hnl2; rcases hat2 with h | ⟨b2, h, _⟩; exact ⟨b0, h.trans hb0⟩; exact ⟨b2, h⟩); obtain ⟨Ax, ca, e2⟩ := Kd.R_slice ho2; subst e2; obtain ⟨bx, hbx⟩ := hso; obtain ⟨ga, eg⟩ := R_someB ho2 hbx; subst eg; have Ha2 := Lib.hid (show Kd.R (Kd.int .u64) 23 w2 w1.heap.size (fun _ => True) (.slice (some ⟨ga, 0, none⟩) l.length ca) l from ho2); have hlea := Lib.hid (below_size HB1.out); have HB2 := Lib.hid (below_step HB1.out hb2); clear hol2 hbl2 hgl2 hnl2 ho2 hb2 hg2 hat2 hbx) | ((with_reducible refine gate_dst (N := 87) rfl ?_); refine Kd.R_lit (Kd.int .u64) _ 23 ?hg (N := 87) ?hd (xs := ([] : List Int)) (inner := []) (ok := fun _ => True) (okp := fun _ => True) ?hr ?hp (fun _ hk => hk) trivial (Below.refl _ _) (Nat.le_refl _) (by simp) ?_; (case hd => rfl); (case hg => rfl); (case hr => first | (go_simp; done) | (go_simp; rfl)); (case hp => exact (Reps.none _ _)); intro vl3 wl3 hol3 hbl3 hgl3 hnl3) | ((with_reducible refine gate_builtin (b := .append) (xs := #[.tmp 87, .tmp 88]) rfl ?_); at_builtin; refine Kd.R_append_rows (Kd.int .u64) (w0 := w2) w2.heap.size rfl (.tmp 87) (.tmp 88) 42 23 (.int .u64 0) 8 rfl Try.underlying42 info23 rfl (by decide) (by omega) vl3 [] l _ _ _ (fun _ => True) (fun _ => False) rfl rfl ?aO ?aR (fun _ _ h => h) (fun _ h => h.elim) ?aF ?aB ?aS ?aL ?_; (case aR => exact Kd.C_below (Kd.C_below HC.out HB2.out) hbl3); (case aB => exact hbl3); (case aF => exact fun _ _ => trivial); (case aO => exact hol3); (case aS => exact below_size hbl3); (case aL => simp; omega); intro v2 w3 ho2 hb2 hg2 hat2; have hso : ∃ b, v2.ownBlock = some b := (by obtain ⟨b0, hb0, _⟩ := hnl3; rcases hat2 with h | ⟨b2, h, _⟩; exact ⟨b0, h.trans hb0⟩; exact ⟨b2, h⟩); obtain ⟨Ax, cb, e2⟩ := Kd.R_slice ho2; subst e2; obtain ⟨bx, hbx⟩ := hso; obtain ⟨gb, eg⟩ := R_someB ho2 hbx; subst eg; have Hb3 := Lib.hid (show Kd.R (Kd.int .u64) 23 w3 w2.heap.size (fun _ => True) (.slice (some ⟨gb, 0, none⟩) l.length cb) l from ho2); have hleb := Lib.hid (below_size HB2.out); have HB3 := Lib.hid (below_step HB2.out hb2); have Ha3 := Lib.hid (R_carry Ha2.out hb2); have neab := Lib.hid (show ga ≠ gb from by have := R_lt2 Ha2.out; have := Kd.R_base Hb3.out gb rfl; omega); clear hol3 hbl3 hgl3 hnl3 ho2 hb2 hg2 hat2 hbx) | ((with_reducible refine gate_dst (N := 90) rfl ?_); refine Kd.R_lit (Kd.int .u64) _ 23 ?hg (N := 90) ?hd (xs := ([] : List Int)) (inner := []) (ok := fun _ => True) (okp := fun _ => True) ?hr ?hp (fun _ hk => hk) trivial (Below.refl _ _) (Nat.le_refl _) (by simp) ?_; (case hd => rfl); (case hg => rfl); (case hr => first | (go_simp; done) | (go_simp; rfl)); (case hp => exact (Reps.none _ _)); intro vl4 wl4 hol4 hbl4 hgl4 hnl4) | ((with_reducible refine gate_builtin (b := .append) (xs := #[.tmp 90, .tmp 91]) rfl ?_); at_builtin; refine Kd.R_append_rows (Kd.int .u64) (w0 := w3) w3.heap.size rfl (.tmp 90) (.tmp 91) 42 23 (.int .u64 0) 8 rfl Try.underlying42 info23 rfl (by decide) (by omega) vl4 [] l _ _ _ (fun _ => True) (fun _ => False) rfl rfl ?aO ?aR (fun _ _ h => h) (fun _ h => h.elim) ?aF ?aB ?aS ?aL ?_; (case aR => exact Kd.C_below (Kd.C_below HC.out HB3.out) hbl4); (case aB => exact hbl4); (case aF => exact fun _ _ => trivial); (case aO => exact hol4); (case aS => exact below_size hbl4); (case aL => simp; omega); intro v2 w4 ho2 hb2 hg2 hat2; have hso : ∃ b, v2.ownBlock = some b := (by obtain ⟨b0, hb0, _⟩ := hnl4; rcases hat2 with h | ⟨b2, h, _⟩; exact ⟨b0, h.trans hb0⟩; exact ⟨b2, h⟩); obtain ⟨Ax, cc, e2⟩ := Kd.R_slice ho2; subst e2; obtain ⟨bx, hbx⟩ := hso; obtain ⟨gc, eg⟩ := R_someB ho2 hbx; subst eg; have Hc4 := Lib.hid (show Kd.R (Kd.int .u64) 23 w4 w3.heap.size (fun _ => True) (.slice (some ⟨gc, 0, none⟩) l.length cc) l from ho2); have hlec := Lib.hid (below_size HB3.out); have HB4 := Lib.hid (below_step HB3.out hb2); have Ha4 := Lib.hid (R_carry Ha3.out hb2); have neac := Lib.hid (show ga ≠ gc from by have := R_lt2 Ha3.out; have := Kd.R_base Hc4.out gc rfl; omega); have Hb4 := Lib.hid (R_carry Hb3.out hb2); have nebc := Lib.hid (show gb ≠ gc from by have := R_lt2 Hb3.out; have := Kd.R_base Hc4.out gc rfl; omega); clear hol4 hbl4 hgl4 hnl4 ho2 hb2 hg2 hat2 hbx))
  go_wp2_with fail
  refine (set_c ga ca l _ _ d v D false _ Ha4.out bd i2).mono ?_
  rintro e ws ⟨rfl, hRs, hGs⟩
  have HB5 := Lib.hid (below_own HB4.out Ha4.out hlea.out hGs)
  have Ha5 := Lib.hid hRs
  have Hb5 := Lib.hid (R_other Hb4.out hGs (by first | exact neba.out | exact neab.out.symm))
  have Hc5 := Lib.hid (R_other Hc4.out hGs (by first | exact neca.out | exact neac.out.symm))
  clear hRs hGs
  dsimp only [okOr, cond_true, cond_false]
  go_upto_region 13 with (first | ((with_reducible refine gate_dst (N := 97) rfl ?_); refine Kd.R_lit (Kd.int .u64) _ 23 ?hg (N := 97) ?hd (xs := ([] : List Int)) (inner := []) (ok := fun _ => True) (okp := fun _ => True) ?hr ?hp (fun _ hk => hk) trivial (Below.refl _ _) (Nat.le_refl _) (by simp) ?_; (case hd => rfl); (case hg => rfl); (case hr => first | (go_simp; done) | (go_simp; rfl)); (case hp => exact (Reps.none _ _)); intro vl6 wl6 hol6 hbl6 hgl6 hnl6) | ((with_reducible refine gate_builtin (b := .append) (xs := #[.tmp 97, .tmp 98]) rfl ?_); at_builtin; refine Kd.R_append_rows (Kd.int .u64) (w0 := ws) ws.heap.size rfl (.tmp 97) (.tmp 98) 42 23 (.int .u64 0) 8 rfl Try.underlying42 info23 rfl (by decide) (by omega) vl6 [] l _ _ _ (fun _ => True) (fun _ => False) rfl rfl ?aO ?aR (fun _ _ h => h) (fun _ h => h.elim) ?aF ?aB ?aS ?aL ?_; (case aR => exact Kd.C_below (Kd.C_below HC.out HB5.out) hbl6); (case aB => exact hbl6); (case aF => exact fun _ _ => trivial); (case aO => exact hol6); (case aS => exact below_size hbl6); (case aL => simp; omega); intro v2 w6 ho2 hb2 hg2 hat2; have hso : ∃ b, v2.ownBlock = some b := (by obtain ⟨b0, hb0, _⟩ := hnl6; rcases hat2 with h | ⟨b2, h, _⟩; exact ⟨b0, h.trans hb0⟩; exact ⟨b2, h⟩); obtain ⟨Ax, ct, e2⟩ := Kd.R_slice ho2; subst e2; obtain ⟨bx, hbx⟩ := hso; obtain ⟨gt, eg⟩ := R_someB ho2 hbx; subst eg; have Ht6 := Lib.hid (show Kd.R (Kd.int .u64) 23 w6 ws.heap.size (fun _ => True) (.slice (some ⟨gt, 0, none⟩) l.length ct) l from ho2); have hlet := Lib.hid (below_size HB5.out); have HB6 := Lib.hid (below_step HB5.out hb2); have Ha6 := Lib.hid (R_carry Ha5.out hb2); have neat := Lib.hid (show ga ≠ gt from by have := R_lt2 Ha5.out; have := Kd.R_base Ht6.out gt rfl; omega); have Hb6 := Lib.hid (R_carry Hb5.out hb2); have nebt := Lib.hid (show gb ≠ gt from by have := R_lt2 Hb5.out; have := Kd.R_base Ht6.out gt rfl; omega); have Hc6 := Lib.hid (R_carry Hc5.out hb2); have nect := Lib.hid (show gc ≠ gt from by have := R_lt2 Hc5.out; have := Kd.R_base Ht6.out gt rfl; omega); clear hol6 hbl6 hgl6 hnl6 ho2 hb2 hg2 hat2 hbx))
  have hset : l.set D v = l := List.set_eq_of_length_le hi
  have HSE := Lib.hid hset
  clear hset
  go_wp2_with fail
  have ra := Kd.R_reads' Ha6.out
  have rt := Kd.R_reads' Ht6.out
  rw [HSE.out] at ra
  refine (same_c _ _ ca ct l.length l _ rfl (by omega) ra.2.2 ra.2.1 rt.2.2 rt.2.1).mono ?_
  rintro e wq ⟨rfl, ⟨nq1, rfl⟩⟩
  clear ra rt
  have HB7 := Lib.hid (pw_below_drewN HB6.out nq1)
  have Hb7 := Lib.hid (Kd.R_drewN Hb6.out nq1)
  have Hc7 := Lib.hid (Kd.R_drewN Hc6.out nq1)
  generalize w6.drewN nq1 = w7 at HB7 Hb7 Hc7 ⊢
  go_wp2_with fail
  refine (fitsr_c l.length D K _ (by omega) false i3).mono ?_
  rintro e wf ⟨rfl, ⟨nf, rfl⟩⟩
  have HB8 := Lib.hid (pw_below_drewN HB7.out nf)
  have Hb8 := Lib.hid (Kd.R_drewN Hb7.out nf)
  have Hc8 := Lib.hid (Kd.R_drewN Hc7.out nf)
  generalize w7.drewN nf = w8 at HB8 Hb8 Hc8 ⊢
  go_wp2_with fail
  refine (fill_c gb cb l _ _ d v n D K false _ Hb8.out bd bn i3).mono ?_
  rintro e wz ⟨rfl, hRz, hGz⟩
  have HB9 := Lib.hid (below_own HB8.out Hb8.out hleb.out hGz)
  have Hb9 := Lib.hid hRz
  have Hc9 := Lib.hid (R_other Hc8.out hGz (by first | exact necb.out | exact nebc.out.symm))
  clear hRz hGz
  dsimp only [okOr, cond_true, cond_false]
  go_upto_region 20 with (first | ((with_reducible refine gate_dst (N := 125) rfl ?_); refine Kd.R_lit (Kd.int .u64) _ 23 ?hg (N := 125) ?hd (xs := ([] : List Int)) (inner := []) (ok := fun _ => True) (okp := fun _ => True) ?hr ?hp (fun _ hk => hk) trivial (Below.refl _ _) (Nat.le_refl _) (by simp) ?_; (case hd => rfl); (case hg => rfl); (case hr => first | (go_simp; done) | (go_simp; rfl)); (case hp => exact (Reps.none _ _)); intro vl10 wl10 hol10 hbl10 hgl10 hnl10) | ((with_reducible refine gate_builtin (b := .append) (xs := #[.tmp 125, .tmp 126]) rfl ?_); at_builtin; refine Kd.R_append_rows (Kd.int .u64) (w0 := wz) wz.heap.size rfl (.tmp 125) (.tmp 126) 42 23 (.int .u64 0) 8 rfl Try.underlying42 info23 rfl (by decide) (by omega) vl10 [] l _ _ _ (fun _ => True) (fun _ => False) rfl rfl ?aO ?aR (fun _ _ h => h) (fun _ h => h.elim) ?aF ?aB ?aS ?aL ?_; (case aR => exact Kd.C_below (Kd.C_below HC.out HB9.out) hbl10); (case aB => exact hbl10); (case aF => exact fun _ _ => trivial); (case aO => exact hol10); (case aS => exact below_size hbl10); (case aL => simp; omega); intro v2 w10 ho2 hb2 hg2 hat2; have hso : ∃ b, v2.ownBlock = some b := (by obtain ⟨b0, hb0, _⟩ := hnl10; rcases hat2 with h | ⟨b2, h, _⟩; exact ⟨b0, h.trans hb0⟩; exact ⟨b2, h⟩); obtain ⟨Ax, cu, e2⟩ := Kd.R_slice ho2; subst e2; obtain ⟨bx, hbx⟩ := hso; obtain ⟨gu, eg⟩ := R_someB ho2 hbx; subst eg; have Hu10 := Lib.hid (show Kd.R (Kd.int .u64) 23 w10 wz.heap.size (fun _ => True) (.slice (some ⟨gu, 0, none⟩) l.length cu) l from ho2); have hleu := Lib.hid (below_size HB9.out); have HB10 := Lib.hid (below_step HB9.out hb2); have Hb10 := Lib.hid (R_carry Hb9.out hb2); have nebu := Lib.hid (show gb ≠ gu from by have := R_lt2 Hb9.out; have := Kd.R_base Hu10.out gu rfl; omega); have Hc10 := Lib.hid (R_carry Hc9.out hb2); have necu := Lib.hid (show gc ≠ gu from by have := R_lt2 Hc9.out; have := Kd.R_base Hu10.out gu rfl; omega); clear hol10 hbl10 hgl10 hnl10 ho2 hb2 hg2 hat2 hbx))
  go_wp2_with fail
  go_loopw [26] (fun i wru => ∃ j : Nat, j ≤ cnt false K ∧ i = .int .u64 j ∧ Kd.R (Kd.int .u64) 23 wru wz.heap.size (fun _ => True) (.slice (some ⟨gu, 0, none⟩) l.length cu) (filY l D v j) ∧ w10.grownBy wru (some gu)) (fun i _ => K - (intOf i).toNat)
  case atStart =>
    refine ⟨0, Nat.zero_le _, rfl, ?_, World.grownBy.refl _ _⟩
    rw [filY_0]
    exact Hu10.out
  case round =>
    obtain ⟨wru, rfl⟩ : ∃ x, x = wr := ⟨wr, rfl⟩
    obtain ⟨j, hj, rfl, hRk, hg⟩ := hrel
    have HK := Lib.hid hRk
    have HG := Lib.hid hg
    clear hRk hg
    obtain rfl : j = 0 := by have : j ≤ 0 := hj; omega
    clear hj
    have HB11 := Lib.hid (below_own HB10.out Hu10.out hleu.out HG.out)
    have Hb11 := Lib.hid (R_other Hb10.out HG.out (by first | exact nebu.out | exact neub.out.symm))
    have Hc11 := Lib.hid (R_other Hc10.out HG.out (by first | exact necu.out | exact neuc.out.symm))
    have Hu11 := Lib.hid HK.out
    go_wp2_with fail
    have ra := Kd.R_reads' Hb11.out
    have rt := Kd.R_reads' Hu11.out
    refine (same_c _ _ cb cu l.length (filY l D v 0) _ (by rw [filY_0]) (by omega) ra.2.2 ra.2.1 rt.2.2 rt.2.1).mono ?_
    rintro e wq12 ⟨rfl, ⟨nq12, rfl⟩⟩
    clear ra rt
    have HB13 := Lib.hid (pw_below_drewN HB11.out nq12)
    have Hc13 := Lib.hid (Kd.R_drewN Hc11.out nq12)
    generalize wru.drewN nq12 = w13 at HB13 Hc13 ⊢
    go_upto_region 27 with (first | ((with_reducible refine gate_dst (N := 152) rfl ?_); refine Kd.R_lit (Kd.int .u64) _ 23 ?hg (N := 152) ?hd (xs := ([] : List Int)) (inner := []) (ok := fun _ => True) (okp := fun _ => True) ?hr ?hp (fun _ hk => hk) trivial (Below.refl _ _) (Nat.le_refl _) (by simp) ?_; (case hd => rfl); (case hg => rfl); (case hr => first | (go_simp; done) | (go_simp; rfl)); (case hp => exact (Reps.none _ _)); intro vl14 wl14 hol14 hbl14 hgl14 hnl14) | ((with_reducible refine gate_builtin (b := .append) (xs := #[.tmp 152, .tmp 153]) rfl ?_); at_builtin; refine Kd.R_append_rows (Kd.int .u64) (w0 := w13) w13.heap.size rfl (.tmp 152) (.tmp 153) 42 23 (.int .u64 0) 8 rfl Try.underlying42 info23 rfl (by decide) (by omega) vl14 [] m _ _ _ (fun _ => True) (fun _ => False) rfl rfl ?aO ?aR (fun _ _ h => h) (fun _ h => h.elim) ?aF ?aB ?aS ?aL ?_; (case aR => exact Kd.C_below (Kd.C_below HM.out HB13.out) hbl14); (case aB => exact hbl14); (case aF => exact fun _ _ => trivial); (case aO => exact hol14); (case aS => exact below_size hbl14); (case aL => simp; omega); intro v2 w14 ho2 hb2 hg2 hat2; have hso : ∃ b, v2.ownBlock = some b := (by obtain ⟨b0, hb0, _⟩ := hnl14; rcases hat2 with h | ⟨b2, h, _⟩; exact ⟨b0, h.trans hb0⟩; exact ⟨b2, h⟩); obtain ⟨Ax, cq, e2⟩ := Kd.R_slice ho2; subst e2; obtain ⟨bx, hbx⟩ := hso; obtain ⟨gq, eg⟩ := R_someB ho2 hbx; subst eg; have Hq14 := Lib.hid (show Kd.R (Kd.int .u64) 23 w14 w13.heap.size (fun _ => True) (.slice (some ⟨gq, 0, none⟩) m.length cq) m from ho2); have hleq := Lib.hid (below_size HB13.out); have HB14 := Lib.hid (below_step HB13.out hb2); have Hc14 := Lib.hid (R_carry Hc13.out hb2); have necq := Lib.hid (show gc ≠ gq from by have := R_lt2 Hc13.out; have := Kd.R_base Hq14.out gq rfl; omega); clear hol14 hbl14 hgl14 hnl14 ho2 hb2 hg2 hat2 hbx))
    go_wp2_with fail
    have i5 : (decide (D + K ≤ l.length) && decide (S + K ≤ m.length)) = false := by rw [i3, i4]; rfl
    have rq := Kd.R_reads' Hq14.out
    refine (copy_c gc cc cq l m _ _ _ d s n D S K false _ Hc14.out rq.2.2 rq.2.1 bd bs bn i5).mono ?_
    rintro e wy ⟨rfl, hRy, hGy⟩
    have HB15 := Lib.hid (below_own HB14.out Hc14.out hlec.out hGy)
    have Hc15 := Lib.hid hRy
    have Hq15 := Lib.hid (R_other Hq14.out hGy (by first | exact neqc.out | exact necq.out.symm))
    clear hRy hGy rq i5
    dsimp only [okOr, cond_true, cond_false]
    go_upto_region 30 with (first | ((with_reducible refine gate_dst (N := 169) rfl ?_); refine Kd.R_lit (Kd.int .u64) _ 23 ?hg (N := 169) ?hd (xs := ([] : List Int)) (inner := []) (ok := fun _ => True) (okp := fun _ => True) ?hr ?hp (fun _ hk => hk) trivial (Below.refl _ _) (Nat.le_refl _) (by simp) ?_; (case hd => rfl); (case hg => rfl); (case hr => first | (go_simp; done) | (go_simp; rfl)); (case hp => exact (Reps.none _ _)); intro vl16 wl16 hol16 hbl16 hgl16 hnl16) | ((with_reducible refine gate_builtin (b := .append) (xs := #[.tmp 169, .tmp 170]) rfl ?_); at_builtin; refine Kd.R_append_rows (Kd.int .u64) (w0 := wy) wy.heap.size rfl (.tmp 169) (.tmp 170) 42 23 (.int .u64 0) 8 rfl Try.underlying42 info23 rfl (by decide) (by omega) vl16 [] l _ _ _ (fun _ => True) (fun _ => False) rfl rfl ?aO ?aR (fun _ _ h => h) (fun _ h => h.elim) ?aF ?aB ?aS ?aL ?_; (case aR => exact Kd.C_below (Kd.C_below HC.out HB15.out) hbl16); (case aB => exact hbl16); (case aF => exact fun _ _ => trivial); (case aO => exact hol16); (case aS => exact below_size hbl16); (case aL => simp; omega); intro v2 w16 ho2 hb2 hg2 hat2; have hso : ∃ b, v2.ownBlock = some b := (by obtain ⟨b0, hb0, _⟩ := hnl16; rcases hat2 with h | ⟨b2, h, _⟩; exact ⟨b0, h.trans hb0⟩; exact ⟨b2, h⟩); obtain ⟨Ax, cz, e2⟩ := Kd.R_slice ho2; subst e2; obtain ⟨bx, hbx⟩ := hso; obtain ⟨gz, eg⟩ := R_someB ho2 hbx; subst eg; have Hz16 := Lib.hid (show Kd.R (Kd.int .u64) 23 w16 wy.heap.size (fun _ => True) (.slice (some ⟨gz, 0, none⟩) l.length cz) l from ho2); have hlez := Lib.hid (below_size HB15.out); have HB16 := Lib.hid (below_step HB15.out hb2); have Hc16 := Lib.hid (R_carry Hc15.out hb2); have necz := Lib.hid (show gc ≠ gz from by have := R_lt2 Hc15.out; have := Kd.R_base Hz16.out gz rfl; omega); have Hq16 := Lib.hid (R_carry Hq15.out hb2); have neqz := Lib.hid (show gq ≠ gz from by have := R_lt2 Hq15.out; have := Kd.R_base Hz16.out gz rfl; omega); clear hol16 hbl16 hgl16 hnl16 ho2 hb2 hg2 hat2 hbx))
    go_wp2_with fail
    go_loopw [29] (fun i wrz => ∃ j : Nat, j ≤ cnt false K ∧ i = .int .u64 j ∧ Kd.R (Kd.int .u64) 23 wrz wy.heap.size (fun _ => True) (.slice (some ⟨gz, 0, none⟩) l.length cz) (copY l m D S j) ∧ w16.grownBy wrz (some gz)) (fun i _ => K - (intOf i).toNat)
    case atStart =>
      refine ⟨0, Nat.zero_le _, rfl, ?_, World.grownBy.refl _ _⟩
      rw [copY_0]
      exact Hz16.out
    case round =>
      obtain ⟨wrz, rfl⟩ : ∃ x, x = wr := ⟨wr, rfl⟩
      obtain ⟨j, hj, rfl, hRk, hg⟩ := hrel
      have HK := Lib.hid hRk
      have HG := Lib.hid hg
      clear hRk hg
      obtain rfl : j = 0 := by have : j ≤ 0 := hj; omega
      clear hj
      have HB17 := Lib.hid (below_own HB16.out Hz16.out hlez.out HG.out)
      have Hc17 := Lib.hid (R_other Hc16.out HG.out (by first | exact necz.out | exact nezc.out.symm))
      have Hq17 := Lib.hid (R_other Hq16.out HG.out (by first | exact neqz.out | exact nezq.out.symm))
      have Hz17 := Lib.hid HK.out
      go_wp2_with fail
      have ra := Kd.R_reads' Hc17.out
      have rt := Kd.R_reads' Hz17.out
      refine (same_c _ _ cc cz l.length (copY l m D S 0) _ (by rw [copY_0]) (by omega) ra.2.2 ra.2.1 rt.2.2 rt.2.1).mono ?_
      rintro e wq18 ⟨rfl, ⟨nq18, rfl⟩⟩
      clear ra rt
      have HB19 := Lib.hid (pw_below_drewN HB17.out nq18)
      have Hq19 := Lib.hid (Kd.R_drewN Hq17.out nq18)
      generalize wrz.drewN nq18 = w19 at HB19 Hq19 ⊢
      go_wp2_with fail
      have ra := Kd.R_reads' Hq19.out
      refine (same_c _ _ cq c2 m.length (m) _ rfl (by omega) ra.2.2 ra.2.1 (Kd.C_below HM.out HB19.out) hc2).mono ?_
      rintro e wq20 ⟨rfl, ⟨nq20, rfl⟩⟩
      clear ra
      have HB21 := Lib.hid (pw_below_drewN HB19.out nq20)
      have Hq21 := Lib.hid (Kd.R_drewN Hq19.out nq20)
      generalize w19.drewN nq20 = w21 at HB21 Hq21 ⊢
      go_wp2
      go_ret
      exact ⟨rfl, HB21.out⟩
theorem and_low (x : Int) (h0 : 0 ≤ x) (h1 : x ≤ 18446744073709551615) : Go.bits .and .u64 x 4294967295 = x % 4294967296 := by
  obtain ⟨m, rfl⟩ : ∃ m : Nat, x = m := ⟨x.toNat, by omega⟩
  rw [show (4294967295 : Int) = ((4294967295 : Nat) : Int) from rfl, u64_and_nat _ _ (by omega) (by omega)]
  have : m &&& 4294967295 = m % 2 ^ 32 := Nat.and_two_pow_sub_one_eq_mod m 32
  rw [this]
  omega
set_option maxRecDepth 100000 in
set_option maxHeartbeats 2000000 in
theorem ta_long (A B : Option Addr) (n1 n2 c1 c2 : Nat) (d s n v : Int) (W : World) (h1 : n1 ≤ 9223372036854775807) (h2 : n2 ≤ 9223372036854775807) (h : 20 < n1 ∨ 20 < n2) :
    Calls Try.prog 8 #[.slice A n1 c1, .slice B n2 c2, .int .u64 d, .int .u64 s, .int .u64 n, .int .u64 v] W fun e W' => e = .returned (.bool true) ∧ Below W.heap.size W W' := by
  by_cases h20 : 20 < n1
  · have q1 : decide ((20 : Int) < (n1 : Int)) = true := decide_eq_true (by omega)
    go_enter Try.func8, Try.ntmps8
    go_wp2_with fail
    refine (begun15 _).mono ?_
    rintro e w' ⟨rfl, hb⟩
    have HB1 := Lib.hid hb
    clear hb
    go_wp2
    go_ret
    exact ⟨rfl, HB1.out⟩
  · have q1 : decide ((20 : Int) < (n1 : Int)) = false := decide_eq_false (by omega)
    have q2 : decide ((20 : Int) < (n2 : Int)) = true := decide_eq_true (by omega)
    go_enter Try.func8, Try.ntmps8
    go_wp2_with fail
    refine (begun15 _).mono ?_
    rintro e w' ⟨rfl, hb⟩
    have HB1 := Lib.hid hb
    clear hb
    go_wp2
    go_ret
    exact ⟨rfl, HB1.out⟩
theorem tableAll_calls (A : Option Addr) (len cap : Nat) (zs : List Int) (B : Option Addr) (len2 cap2 : Nat) (zs2 : List Int) (d : Int) (w1 : (Lit.int .u64 d).wf = true) (s : Int) (w2 : (Lit.int .u64 s).wf = true) (n : Int) (w3 : (Lit.int .u64 n).wf = true) (v : Int) (w4 : (Lit.int .u64 v).wf = true) (W : World) (y : Go.Vm.IsRow .u64 W A len cap zs) (y2 : Go.Vm.IsRow .u64 W B len2 cap2 zs2) :
    Calls Try.prog 8 #[.slice A len cap, .slice B len2 cap2, .int .u64 d, .int .u64 s, .int .u64 n, .int .u64 v] W fun e W' => e = .returned (.bool true) ∧ Below W.heap.size W W' := by
  obtain ⟨hlen, hcap, hC, hwf⟩ := row_C y
  obtain ⟨hlen2, hcap2, hM, hwf2⟩ := row_C y2
  have r1 := (Lit.wf_int_iff _ _).1 w1
  have r2 := (Lit.wf_int_iff _ _).1 w2
  have r3 := (Lit.wf_int_iff _ _).1 w3
  have r4 := (Lit.wf_int_iff _ _).1 w4
  have m4 : IntKind.min .u64 = 0 := by decide
  have x4 : IntKind.max .u64 = 18446744073709551615 := by decide
  rw [m4, x4] at r1 r2 r3 r4
  clear hwf hwf2 y y2 w1 w2 w3 w4 m4 x4
  generalize zs.take len = l at hlen hC
  generalize zs2.take len2 = m at hlen2 hM
  subst hlen hlen2
  by_cases h20 : 20 < l.length ∨ 20 < m.length
  · exact ta_long A B l.length m.length cap cap2 d s n v W hC.2.1 hM.2.1 h20
  · have b1 := and_low d r1.1 r1.2
    have b2 := and_low s r2.1 r2.2
    have b3 := and_low n r3.1 r3.2
    obtain ⟨D, hd⟩ : ∃ D : Nat, d % 4294967296 = D := ⟨(d % 4294967296).toNat, by omega⟩
    obtain ⟨S, hs⟩ : ∃ S : Nat, s % 4294967296 = S := ⟨(s % 4294967296).toNat, by omega⟩
    obtain ⟨K, hn⟩ : ∃ K : Nat, n % 4294967296 = K := ⟨(n % 4294967296).toNat, by omega⟩
    rw [hd] at b1
    rw [hs] at b2
    rw [hn] at b3
    rcases Nat.lt_or_ge D l.length with hi | hi <;> rcases Nat.lt_or_ge l.length (D + K) with hf | hf <;> rcases Nat.lt_or_ge m.length (S + K) with hf2 | hf2
    · exact ta_tff A B cap cap2 l m d s n v D S K W r1 r2 r3 r4 hd hs hn b1 b2 b3 (by omega) (by omega) hi hf hf2 hC hM hcap hcap2
    · exact ta_tft A B cap cap2 l m d s n v D S K W r1 r2 r3 r4 hd hs hn b1 b2 b3 (by omega) (by omega) hi hf hf2 hC hM hcap hcap2
    · exact ta_ttf A B cap cap2 l m d s n v D S K W r1 r2 r3 r4 hd hs hn b1 b2 b3 (by omega) (by omega) hi hf hf2 hC hM hcap hcap2
    · exact ta_ttt A B cap cap2 l m d s n v D S K W r1 r2 r3 r4 hd hs hn b1 b2 b3 (by omega) (by omega) hi hf hf2 hC hM hcap hcap2
    · exact ta_fff A B cap cap2 l m d s n v D S K W r1 r2 r3 r4 hd hs hn b1 b2 b3 (by omega) (by omega) hi hf hf2 hC hM hcap hcap2
    · exact ta_fft A B cap cap2 l m d s n v D S K W r1 r2 r3 r4 hd hs hn b1 b2 b3 (by omega) (by omega) hi hf hf2 hC hM hcap hcap2
    · exact ta_ftf A B cap cap2 l m d s n v D S K W r1 r2 r3 r4 hd hs hn b1 b2 b3 (by omega) (by omega) hi hf hf2 hC hM hcap hcap2
    · exact ta_ftt A B cap cap2 l m d s n v D S K W r1 r2 r3 r4 hd hs hn b1 b2 b3 (by omega) (by omega) hi hf hf2 hC hM hcap hcap2
end Go.Proofs.Ytfjnhdbbjggkmaa.Mem
