/- The law TableSelf: its call answers true. -/
import Derived.Test.YtfjnhdbbjggkmaaCopyD
import Derived.Deep.QuietTactic
import Derived.BigQuiet
import Derived.Lib.Hide
set_option linter.unusedVariables false
set_option linter.unusedSimpArgs false
namespace Go.Proofs.Ytfjnhdbbjggkmaa.Mem
open Go.RowKit Go.Proofs.YtfjnhdbbjggkmaaW.PrintWords Go.Proofs.YtfjnhdbbjggkmaaW.PrintLast Go.Proofs.YtfjnhdbbjggkmaaW.PrintMore Go.Proofs.Ytfjnhdbbjggkmaa.PTableAll
attribute [local go_sem] max2_int min2_int max_two min_two max_three min_three max_four min_four
theorem same_l0 (l : List Int) (hl : l.length ≤ 9223372036854775000) : ∀ n i, i + n = l.length + 1 → 1 ≤ n → cloakroomref1_SameNums.l0 n l l (i : Int) = some true
  | n + 1, i, h, _ => by
    unfold cloakroomref1_SameNums.l0
    split
    · rename_i hi
      rw [if_pos (by omega), if_pos rfl]
      have e : wrap64 ((i : Int) + 1) = ((i + 1 : Nat) : Int) := by
        unfold wrap64
        omega
      rw [e]
      exact same_l0 l hl n (i + 1) (by omega) (by omega)
    · rfl
theorem same_refl (l : List Int) (hl : l.length ≤ 9223372036854775000) : cloakroomref1_SameNums.f (l.length + 1) l l = some true := by
  unfold cloakroomref1_SameNums.f
  rw [if_pos rfl]
  exact same_l0 l hl (l.length + 1) 0 (by omega) (by omega)
theorem y_set (l : List Int) (p q k : Nat) (h1 : p + k < l.length) (h2 : q + k < l.length) : (l.take p ++ ((l.drop q).take k ++ l.drop (p + k))).set (p + k) (rd l ((q + k : Nat) : Int)) = l.take p ++ ((l.drop q).take (k + 1) ++ l.drop (p + (k + 1))) := by
  have e1 : (l.take p).length = p := by rw [List.length_take]; omega
  have e2 : ((l.drop q).take k).length = k := by rw [List.length_take, List.length_drop]; omega
  rw [List.set_append_right _ _ (by omega), List.set_append_right _ _ (by omega), e1, e2, show p + k - p - k = 0 by omega]
  rw [List.drop_eq_getElem_cons h1, List.set_cons_zero, List.take_succ_eq_append_getElem (by rw [List.length_drop]; omega), List.append_assoc]
  congr 2
  simp only [rd, List.getElem_drop, Int.toNat_natCast, List.singleton_append, Nat.add_assoc]
  congr 1
  rw [List.getD_eq_getElem?_getD, List.getElem?_eq_getElem h2]
  rfl
theorem R_some64 {w : World} {base : Nat} {ok : Nat → Prop} {A : Option Addr} {n c : Nat} {xs : List Int} (h : Kd.R (Kd.int .u64) 23 w base ok (.slice A n c) xs) (hp : 0 < xs.length) : ∃ g, A = some ⟨g, 0, none⟩ := by
  obtain ⟨_, inner, ho, _⟩ := h
  obtain ⟨h1, h2⟩ := ho
  rcases h2 with ⟨e, h3⟩ | ⟨g, cap, cur, e, h3⟩
  · injection e with e1 e2 e3
    subst e1
    simp_all
    try omega
  · injection e with e1 e2 e3
    exact ⟨g, e1⟩
set_option maxRecDepth 100000 in
set_option maxHeartbeats 2000000 in
theorem ts_mid (A : Option Addr) (cap : Nat) (l : List Int) (n1 n2 n3 : Int) (p q K : Nat) (W : World) (r1 : 0 ≤ n1 ∧ n1 ≤ 255) (r2 : 0 ≤ n2 ∧ n2 ≤ 255) (r3 : 0 ≤ n3 ∧ n3 ≤ 255)
    (hp : n1 % ((l.length : Int) + 1) = p) (hq : n2 % ((l.length : Int) + 1) = q) (hpl : p ≤ l.length) (hql : q ≤ l.length) (hK : (if (l.length : Int) - q < (if (l.length : Int) - p < n3 then (l.length : Int) - p else n3) then (l.length : Int) - q else if (l.length : Int) - p < n3 then (l.length : Int) - p else n3) = K) (hKp : p + K ≤ l.length) (hKq : q + K ≤ l.length)
    (hC : Kd.C (Kd.int .u64) W A l.length l) (hcap : l.length ≤ cap) (h0 : 0 < l.length) (h20 : l.length ≤ 20) :
    Calls Try.prog 9 #[.slice A l.length cap, .int .u8 n1, .int .u8 n2, .int .u8 n3] W fun e W' => e = .returned (.bool true) ∧ Below W.heap.size W W' := by
  have hne : ¬ l.length = 0 := by omega
  have hne2 : ¬ (l.length : Int) = 0 := by omega
  have hne3 : ((l.length : Int) == 0) = false := by rw [beq_eq_false_iff_ne]; omega
  have HC := Lib.hid hC
  clear hC
  go_enter Try.func9, Try.ntmps9
  go_wp2_with fail
  refine (begun15 _).mono ?_
  rintro e w' ⟨rfl, hb⟩
  have HB1 := Lib.hid hb
  clear hb
  go_upto_region 5 with (fail)
  go_quiet (fail)
  go_upto_region 7 with (fail)
  rw [hp, hq]
  try rw [hK]
  have hb2 := pw_below_drewN HB1.out nq
  have HB2 := Lib.hid hb2
  have HC2 := Lib.hid (Kd.C_below HC.out hb2)
  clear hb2 HB1
  generalize w'.drewN nq = wa at HB2 HC2 ⊢
  go_upto_region 8 with (first | ((with_reducible refine gate_dst (N := 49) rfl ?_); refine Kd.R_lit (Kd.int .u64) _ 23 ?hg (N := 49) ?hd (xs := ([] : List Int)) (inner := []) (ok := fun _ => True) (okp := fun _ => True) ?hr ?hp (fun _ hk => hk) trivial (Below.refl _ _) (Nat.le_refl _) (by simp) ?_; (case hd => rfl); (case hg => rfl); (case hr => first | (go_simp; done) | (go_simp; rfl)); (case hp => exact (Reps.none _ _)); intro v1 w2 ho1 hb1 hg1 hn1) | ((with_reducible refine gate_builtin (b := .append) (xs := #[.tmp 49, .tmp 50]) rfl ?_); at_builtin; refine Kd.R_append_rows (Kd.int .u64) (w0 := wa) wa.heap.size rfl (.tmp 49) (.tmp 50) 42 23 (.int .u64 0) 8 rfl Try.underlying42 info23 rfl (by decide) (by omega) v1 [] l _ _ _ (fun _ => True) (fun _ => False) rfl rfl ?aO ?aR (fun _ _ h => h) (fun _ h => h.elim) ?aF ?aB ?aS ?aL ?_; (case aR => exact Kd.C_below HC2.out hb1); (case aB => exact hb1); (case aF => exact fun _ _ => trivial); (case aO => exact ho1); (case aS => exact below_size hb1); (case aL => simp; omega); intro v2 wb ho2 hb2 hg2 hat2; obtain ⟨A2, c2, e2⟩ := Kd.R_slice ho2; subst e2; have HO := Lib.hid (show Kd.R (Kd.int .u64) 23 wb wa.heap.size (fun _ => True) (.slice A2 l.length c2) l from ho2); have HBb := Lib.hid hb2; clear ho1 hb1 hg1 hn1 ho2 hb2 hg2 hat2))
  obtain ⟨g, rfl⟩ := R_some64 HO.out h0
  have hcx := Kd.R_reads' HO.out
  go_wp2_with fail
  have b1 : Go.bits .and .u64 (p : Int) 4294967295 = p := and_low32 _ (by omega) (by omega)
  have b2 : Go.bits .and .u64 (q : Int) 4294967295 = q := and_low32 _ (by omega) (by omega)
  have b3 : Go.bits .and .u64 (K : Int) 4294967295 = K := and_low32 _ (by omega) (by omega)
  refine (copy_yes g c2 c2 l l (some ⟨g, 0, none⟩) wa.heap.size (fun _ => True) p q K p q K wb HO.out hcx.2.2 hcx.2.1 b1 b2 b3 hKp hKq).mono ?_
  rintro e wc ⟨rfl, hRc, hGc⟩
  have hgb : wa.heap.size ≤ g := Kd.R_base HO.out g rfl
  have hbc := pw_below_grown (below_step HB2.out HBb.out) (some g) (by have := below_size HB2.out; have := below_size HBb.out; omega) hGc (fun k hk => by injection hk with hk; have := below_size HB2.out; omega)
  have hxl : (l.take p ++ ((l.drop q).take K ++ l.drop (p + K))).length = l.length := by simp; omega
  have hxc := (Kd.R_reads' hRc).2.2
  have HXC := Lib.hid hxc
  have HBC := Lib.hid hbc
  have HCC := Lib.hid (Kd.C_below HC.out hbc)
  clear hRc hGc hbc hxc b1 b2 b3
  go_upto_region 10 with (first | ((with_reducible refine gate_dst (N := 61) rfl ?_); refine Kd.R_lit (Kd.int .u64) _ 23 ?hg (N := 61) ?hd (xs := ([] : List Int)) (inner := []) (ok := fun _ => True) (okp := fun _ => True) ?hr ?hp (fun _ hk => hk) trivial (Below.refl _ _) (Nat.le_refl _) (by simp) ?_; (case hd => rfl); (case hg => rfl); (case hr => first | (go_simp; done) | (go_simp; rfl)); (case hp => exact (Reps.none _ _)); intro v1 w2 ho1 hb1 hg1 hn1) | ((with_reducible refine gate_builtin (b := .append) (xs := #[.tmp 61, .tmp 62]) rfl ?_); at_builtin; refine Kd.R_append_rows (Kd.int .u64) (w0 := wc) wc.heap.size rfl (.tmp 61) (.tmp 62) 42 23 (.int .u64 0) 8 rfl Try.underlying42 info23 rfl (by decide) (by omega) v1 [] l _ _ _ (fun _ => True) (fun _ => False) rfl rfl ?aO ?aR (fun _ _ h => h) (fun _ h => h.elim) ?aF ?aB ?aS ?aL ?_; (case aR => exact Kd.C_below HCC.out hb1); (case aB => exact hb1); (case aF => exact fun _ _ => trivial); (case aO => exact ho1); (case aS => exact below_size hb1); (case aL => simp; omega); intro v2 wd ho2 hb2 hg2 hat2; obtain ⟨A3, c3, e2⟩ := Kd.R_slice ho2; subst e2; have HP := Lib.hid (show Kd.R (Kd.int .u64) 23 wd wc.heap.size (fun _ => True) (.slice A3 l.length c3) l from ho2); have HBd := Lib.hid hb2; clear ho1 hb1 hg1 hn1 ho2 hb2 hg2 hat2))
  obtain ⟨g3, rfl⟩ := R_some64 HP.out h0
  obtain ⟨ad, rfl, _⟩ := HC.out.2.2 h0
  have hg3 : wc.heap.size ≤ g3 := Kd.R_base HP.out g3 rfl
  have hwc : W.heap.size ≤ wc.heap.size := below_size HBC.out
  have hwd : wc.heap.size ≤ wd.heap.size := below_size HBd.out
  go_wp2_with fail
  go_loopw [15] (fun i wr => ∃ k : Nat, k ≤ K ∧ i = .int .i64 k ∧ Kd.R (Kd.int .u64) 23 wr wc.heap.size (fun _ => True) (.slice (some ⟨g3, 0, none⟩) l.length c3) (l.take p ++ ((l.drop q).take k ++ l.drop (p + k))) ∧ wd.grownBy wr (some g3)) (fun i _ => K - (intOf i).toNat)
  case atStart =>
    refine ⟨0, Nat.zero_le _, rfl, ?_, World.grownBy.refl _ _⟩
    have e : l.take p ++ ((l.drop q).take 0 ++ l.drop (p + 0)) = l := by simp
    rw [e]
    exact HP.out
  case round =>
    obtain ⟨k, hk, rfl, hRk, hg⟩ := hrel
    have HK := Lib.hid hRk
    have HG := Lib.hid hg
    have hbr := pw_below_grown HBd.out (some g3) hwd hg (fun k hk => by injection hk with hk; omega)
    have HBR := Lib.hid hbr
    have hcl := Kd.C_below HCC.out hbr
    have HCL := Lib.hid hcl
    clear hRk hg hbr hcl
    by_cases hlt : k < K
    · obtain ⟨ad', he, hc⟩ := Kd.at_int HCL.out ((q + k : Nat) : Int) (by omega) (by omega)
      obtain rfl := Option.some.inj he
      rw [Int.toNat_natCast] at hc
      obtain ⟨hc2, hfz⟩ := Kd.R_celln 0 HK.out ((p + k : Nat) : Int) (by omega) (by omega)
      rw [Int.toNat_natCast] at hc2 hfz
      have hput := Kd.R_putg HK.out ((p + k : Nat) : Int) (rd l ((q + k : Nat) : Int))
      rw [Int.toNat_natCast, y_set l p q k (by omega) (by omega)] at hput
      have HP2 := Lib.hid hput
      clear hput
      go_wp2
      go_roundw
      case rel =>
        exact ⟨k + 1, by omega, by go_num, HP2.out.1, HG.out.trans HP2.out.2⟩
      case measure => (simp [intOf]; try omega)
    · obtain rfl : k = K := by omega
      go_wp2_with fail
      have hry := Kd.R_reads' HK.out
      have hsm := cloakroomref1_SameNums.calls (l.length + 1) (some ⟨g, 0, none⟩) c2 (l.take p ++ ((l.drop q).take k ++ l.drop (p + k))) (some ⟨g3, 0, none⟩) c3 (l.take p ++ ((l.drop q).take k ++ l.drop (p + k))) true _ (Kd.C_below HXC.out HBR.out) (by rw [hxl]; exact hcx.2.1) hry.2.2 (by rw [hxl]; exact hry.2.1) (by rw [← hxl]; exact same_refl _ (by omega))
      rw [hxl] at hsm
      refine hsm.mono ?_
      rintro e we ⟨rfl, ⟨nd, rfl⟩⟩
      clear hsm hry hcx hxl hK hp hq
      go_wp2
      go_ret
      exact ⟨rfl, pw_below_drewN (below_step HBC.out HBR.out) _⟩
set_option maxHeartbeats 1000000 in
theorem ts_none (A : Option Addr) (cap : Nat) (n : Nat) (n1 n2 n3 : Int) (W : World) (hm : n ≤ 9223372036854775807) (h : n = 0 ∨ 20 < n) :
    Calls Try.prog 9 #[.slice A n cap, .int .u8 n1, .int .u8 n2, .int .u8 n3] W fun e W' => e = .returned (.bool true) ∧ Below W.heap.size W W' := by
  rcases h with h | h
  · subst h
    go_enter Try.func9, Try.ntmps9
    go_wp2_with fail
    refine (begun15 _).mono ?_
    rintro e w' ⟨rfl, hb⟩
    have HB1 := Lib.hid hb
    clear hb
    go_wp2
    go_ret
    exact ⟨rfl, HB1.out⟩
  · have hne3 : ((n : Int) == 0) = false := by rw [beq_eq_false_iff_ne]; omega
    have hne2 : ¬ (n : Int) = 0 := by omega
    have hne : ¬ n = 0 := by omega
    go_enter Try.func9, Try.ntmps9
    go_wp2_with fail
    refine (begun15 _).mono ?_
    rintro e w' ⟨rfl, hb⟩
    have HB1 := Lib.hid hb
    clear hb
    go_wp2
    go_ret
    exact ⟨rfl, HB1.out⟩
theorem tableSelf_calls (A : Option Addr) (len cap : Nat) (zs : List Int) (n1 : Int) (w1 : (Lit.int .u8 n1).wf = true) (n2 : Int) (w2 : (Lit.int .u8 n2).wf = true) (n3 : Int) (w3 : (Lit.int .u8 n3).wf = true) (W : World) (y : Go.Vm.IsRow .u64 W A len cap zs) :
    Calls Try.prog 9 #[.slice A len cap, .int .u8 n1, .int .u8 n2, .int .u8 n3] W fun e W' => e = .returned (.bool true) ∧ Below W.heap.size W W' := by
  obtain ⟨hlen, hcap, hC, hwf⟩ := row_C y
  have r1 := (Lit.wf_int_iff _ _).1 w1
  have r2 := (Lit.wf_int_iff _ _).1 w2
  have r3 := (Lit.wf_int_iff _ _).1 w3
  have m1 : IntKind.min .u8 = 0 := by decide
  have x1 : IntKind.max .u8 = 255 := by decide
  rw [m1, x1] at r1 r2 r3
  clear hwf y w1 w2 w3 m1 x1
  generalize zs.take len = l at hlen hC
  subst hlen
  have hmx : l.length ≤ 9223372036854775807 := hC.2.1
  by_cases h0 : l.length = 0 ∨ 20 < l.length
  · exact ts_none A cap l.length n1 n2 n3 W hmx h0
  · have hpos : (0 : Int) < (l.length : Int) + 1 := by omega
    have p1 := Int.emod_nonneg n1 (show (l.length : Int) + 1 ≠ 0 by omega)
    have p2 := Int.emod_lt_of_pos n1 hpos
    have q1 := Int.emod_nonneg n2 (show (l.length : Int) + 1 ≠ 0 by omega)
    have q2 := Int.emod_lt_of_pos n2 hpos
    obtain ⟨p, hp⟩ : ∃ p : Nat, n1 % ((l.length : Int) + 1) = p := ⟨(n1 % ((l.length : Int) + 1)).toNat, by omega⟩
    obtain ⟨q, hq⟩ : ∃ q : Nat, n2 % ((l.length : Int) + 1) = q := ⟨(n2 % ((l.length : Int) + 1)).toNat, by omega⟩
    obtain ⟨K, hK⟩ : ∃ K : Nat, (if (l.length : Int) - q < (if (l.length : Int) - p < n3 then (l.length : Int) - p else n3) then (l.length : Int) - q else if (l.length : Int) - p < n3 then (l.length : Int) - p else n3) = K := by
      refine ⟨(if (l.length : Int) - q < (if (l.length : Int) - p < n3 then (l.length : Int) - p else n3) then (l.length : Int) - q else if (l.length : Int) - p < n3 then (l.length : Int) - p else n3).toNat, ?_⟩
      split <;> (try split) <;> (try split at *) <;> omega
    refine ts_mid A cap l n1 n2 n3 p q K W r1 r2 r3 hp hq (by omega) (by omega) hK ?_ ?_ hC hcap (by omega) (by omega)
    · split at hK <;> (try split at hK) <;> (try split at *) <;> omega
    · split at hK <;> (try split at hK) <;> (try split at *) <;> omega
end Go.Proofs.Ytfjnhdbbjggkmaa.Mem
