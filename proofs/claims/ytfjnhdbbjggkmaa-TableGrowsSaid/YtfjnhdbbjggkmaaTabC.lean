/- table.Get, Set, Fill, Copy: each in one contract for both answers. -/
import Derived.Test.YtfjnhdbbjggkmaaCopyD
import Derived.Lib.Hide
set_option linter.unusedVariables false
set_option linter.unusedSimpArgs false
namespace Go.Proofs.Ytfjnhdbbjggkmaa.Mem
open Go.RowKit Go.Proofs.YtfjnhdbbjggkmaaW.PrintWords Go.Proofs.YtfjnhdbbjggkmaaW.PrintLast Go.Proofs.YtfjnhdbbjggkmaaW.PrintMore Go.Proofs.Ytfjnhdbbjggkmaa.PTableAll
/-- The answer of a call that fits or does not. -/
def okOr (b : Bool) : Int := bif b then 0 else 7
def cnt (b : Bool) (K : Nat) : Nat := bif b then K else 0
theorem R_someB {w : World} {base : Nat} {ok : Nat → Prop} {A : Option Addr} {n c : Nat} {xs : List Int} (h : Kd.R (Kd.int .u64) 23 w base ok (.slice A n c) xs) {b : Nat} (hb : (Value.slice A n c).ownBlock = some b) : ∃ g, A = some ⟨g, 0, none⟩ := by
  obtain ⟨_, inner, ho, _⟩ := h
  obtain ⟨h1, h2⟩ := ho
  rcases h2 with ⟨e, h3⟩ | ⟨g, cap, cur, e, h3⟩
  · injection e with e1 e2 e3
    subst e1
    cases hb
  · injection e with e1 e2 e3
    exact ⟨g, e1⟩
set_option maxHeartbeats 1000000 in
theorem get_yes (A : Option Addr) (c : Nat) (l : List Int) (d : Int) (D : Nat) (w : World) (hC : Kd.C (Kd.int .u64) w A l.length l) (hc : l.length ≤ c) (hd : Go.bits .and .u64 d 4294967295 = D) (h : D < l.length) :
    Calls Try.prog 18 #[.slice A l.length c, .int .u64 d] w fun e w' => e = .returned (.tuple #[.int .u64 (rd l (D : Int)), .int .i64 0]) ∧ Drawn0 w w' := by
  have m0 : l.length ≤ 9223372036854775807 := hC.2.1
  have HC := Lib.hid hC
  clear hC
  go_enter Try.func18, Try.ntmps18
  go_wp2_with fail
  refine (table_row_fits.calls _ c l D 1 true _ HC.out hc (rowfits_yes l D 1 m0 (by omega))).mono ?_
  rintro e w' ⟨rfl, ⟨n1, rfl⟩⟩
  obtain ⟨ad, rfl, hcell⟩ := Kd.at_int (Kd.C_drewN HC.out n1) (D : Int) (by omega) (by omega)
  rw [Int.toNat_natCast] at hcell
  go_wp2
  go_ret2
  exact ⟨rfl, ⟨⟨n1, rfl⟩⟩⟩
set_option maxHeartbeats 1000000 in
theorem get_no (A : Option Addr) (c : Nat) (l : List Int) (d : Int) (D : Nat) (w : World) (hC : Kd.C (Kd.int .u64) w A l.length l) (hc : l.length ≤ c) (hd : Go.bits .and .u64 d 4294967295 = D) (h : l.length ≤ D) :
    Calls Try.prog 18 #[.slice A l.length c, .int .u64 d] w fun e w' => e = .returned (.tuple #[.int .u64 0, .int .i64 7]) ∧ Drawn0 w w' := by
  have m0 : l.length ≤ 9223372036854775807 := hC.2.1
  have HC := Lib.hid hC
  clear hC
  go_enter Try.func18, Try.ntmps18
  go_wp2_with fail
  refine (table_row_fits.calls _ c l D 1 false _ HC.out hc (rowfits_no l D 1 m0 (by omega))).mono ?_
  rintro e w' ⟨rfl, ⟨n1, rfl⟩⟩
  go_wp2
  go_ret2
  exact ⟨rfl, ⟨⟨n1, rfl⟩⟩⟩
set_option maxHeartbeats 1000000 in
theorem set_c (g c : Nat) (l : List Int) (base : Nat) (ok : Nat → Prop) (d v : Int) (D : Nat) (b : Bool) (w : World) (hR : Kd.R (Kd.int .u64) 23 w base ok (.slice (some ⟨g, 0, none⟩) l.length c) l) (hd : Go.bits .and .u64 d 4294967295 = D) (hb : decide (D < l.length) = b) :
    Calls Try.prog 19 #[.slice (some ⟨g, 0, none⟩) l.length c, .int .u64 d, .int .u64 v] w fun e w' => e = .returned (.int .i64 (okOr b)) ∧ Kd.R (Kd.int .u64) 23 w' base ok (.slice (some ⟨g, 0, none⟩) l.length c) (l.set D v) ∧ w.grownBy w' (some g) := by
  obtain ⟨_, hc0, hC0⟩ := Kd.R_reads' hR
  have m0 : l.length ≤ 9223372036854775807 := hC0.2.1
  have HR := Lib.hid hR
  have HC := Lib.hid hC0
  clear hR hC0
  go_enter Try.func19, Try.ntmps19
  go_wp2_with fail
  cases b
  · have hlt : l.length ≤ D := by have := of_decide_eq_false hb; omega
    refine (table_row_fits.calls _ c l D 1 false _ HC.out hc0 (rowfits_no l D 1 m0 (by omega))).mono ?_
    rintro e w' ⟨rfl, ⟨n1, rfl⟩⟩
    go_wp2
    go_ret
    refine ⟨rfl, ?_, ⟨rfl, rfl, rfl, Nat.le_refl _, fun k _ _ => rfl⟩⟩
    rw [List.set_eq_of_length_le hlt]
    exact Kd.R_drewN HR.out n1
  · have hlt : D < l.length := of_decide_eq_true hb
    refine (table_row_fits.calls _ c l D 1 true _ HC.out hc0 (rowfits_yes l D 1 m0 (by omega))).mono ?_
    rintro e w' ⟨rfl, ⟨n1, rfl⟩⟩
    have HK := Lib.hid (Kd.R_drewN HR.out n1)
    obtain ⟨hc2, hfz⟩ := Kd.R_celln 0 HK.out (D : Int) (by omega) (by omega)
    rw [Int.toNat_natCast] at hc2 hfz
    have hput := Kd.R_putg HK.out (D : Int) v
    rw [Int.toNat_natCast] at hput
    have HP := Lib.hid hput
    clear hput
    go_wp2
    go_ret
    exact ⟨rfl, HP.out.1, (⟨rfl, rfl, rfl, Nat.le_refl _, fun k _ _ => rfl⟩ : w.grownBy (w.drewN n1) (some g)).trans HP.out.2⟩
/-- l with v from D on, k times. -/
def filY (l : List Int) (D : Nat) (v : Int) (k : Nat) : List Int := l.take D ++ (List.replicate k v ++ l.drop (D + k))
theorem filY_0 (l : List Int) (D : Nat) (v : Int) : filY l D v 0 = l := by simp [filY]
theorem filY_len (l : List Int) (D : Nat) (v : Int) (k : Nat) (h : D + k ≤ l.length) : (filY l D v k).length = l.length := by simp [filY]; omega
theorem filY_set (l : List Int) (D : Nat) (v : Int) (k : Nat) (h : D + k < l.length) : (filY l D v k).set (D + k) v = filY l D v (k + 1) := by
  unfold filY
  have e1 : (l.take D).length = D := by rw [List.length_take]; omega
  rw [List.set_append_right _ _ (by omega), List.set_append_right _ _ (by rw [List.length_replicate]; omega), e1, List.length_replicate, show D + k - D - k = 0 by omega]
  rw [List.drop_eq_getElem_cons h, List.set_cons_zero, List.replicate_succ', List.append_assoc]
  rfl
set_option maxHeartbeats 1000000 in
theorem fill_c (g c : Nat) (l : List Int) (base : Nat) (ok : Nat → Prop) (d v k : Int) (D K : Nat) (b : Bool) (w : World) (hR : Kd.R (Kd.int .u64) 23 w base ok (.slice (some ⟨g, 0, none⟩) l.length c) l) (hd : Go.bits .and .u64 d 4294967295 = D) (hk : Go.bits .and .u64 k 4294967295 = K) (hb : decide (D + K ≤ l.length) = b) :
    Calls Try.prog 22 #[.slice (some ⟨g, 0, none⟩) l.length c, .int .u64 d, .int .u64 v, .int .u64 k] w fun e w' => e = .returned (.int .i64 (okOr b)) ∧ Kd.R (Kd.int .u64) 23 w' base ok (.slice (some ⟨g, 0, none⟩) l.length c) (filY l D v (cnt b K)) ∧ w.grownBy w' (some g) := by
  obtain ⟨_, hc0, hC0⟩ := Kd.R_reads' hR
  have m0 : l.length ≤ 9223372036854775807 := hC0.2.1
  have HR := Lib.hid hR
  have HC := Lib.hid hC0
  clear hR hC0
  go_enter Try.func22, Try.ntmps22
  go_wp2_with fail
  cases b
  · have hlt : l.length < D + K := by have := of_decide_eq_false hb; omega
    refine (table_row_fits.calls _ c l D K false _ HC.out hc0 (rowfits_no l D K m0 (by omega))).mono ?_
    rintro e w' ⟨rfl, ⟨n1, rfl⟩⟩
    go_wp2
    go_ret
    refine ⟨rfl, ?_, ⟨rfl, rfl, rfl, Nat.le_refl _, fun k _ _ => rfl⟩⟩
    show Kd.R (Kd.int .u64) 23 _ base ok _ (filY l D v 0)
    rw [filY_0]
    exact Kd.R_drewN HR.out n1
  · have hlt : D + K ≤ l.length := of_decide_eq_true hb
    refine (table_row_fits.calls _ c l D K true _ HC.out hc0 (rowfits_yes l D K m0 (by omega))).mono ?_
    rintro e w' ⟨rfl, ⟨n1, rfl⟩⟩
    have HK0 := Lib.hid (Kd.R_drewN HR.out n1)
    have HG0 := Lib.hid (⟨rfl, rfl, rfl, Nat.le_refl _, fun k _ _ => rfl⟩ : w.grownBy (w.drewN n1) (some g))
    generalize w.drewN n1 = wa at HK0 HG0 ⊢
    go_wp2_with fail
    go_loopw [20] (fun i wr => ∃ j : Nat, j ≤ K ∧ i = .int .u64 j ∧ Kd.R (Kd.int .u64) 23 wr base ok (.slice (some ⟨g, 0, none⟩) l.length c) (filY l D v j) ∧ w.grownBy wr (some g)) (fun i _ => K - (intOf i).toNat)
    case atStart =>
      refine ⟨0, Nat.zero_le _, rfl, ?_, HG0.out⟩
      rw [filY_0]
      exact HK0.out
    case round =>
      obtain ⟨j, hj, rfl, hRk, hg⟩ := hrel
      have HK := Lib.hid hRk
      have HG := Lib.hid hg
      clear hRk hg
      by_cases hl2 : j < K
      · obtain ⟨hc2, hfz⟩ := Kd.R_celln 0 HK.out ((D + j : Nat) : Int) (by omega) (by omega)
        rw [Int.toNat_natCast] at hc2 hfz
        have hput := Kd.R_putg HK.out ((D + j : Nat) : Int) v
        rw [Int.toNat_natCast, filY_set l D v j (by omega)] at hput
        have HP := Lib.hid hput
        clear hput
        go_wp2
        go_roundw
        case rel => exact ⟨j + 1, by omega, by go_num, HP.out.1, HG.out.trans HP.out.2⟩
        case measure => (simp [intOf]; try omega)
      · obtain rfl : j = K := by omega
        go_wp2
        go_ret
        exact ⟨rfl, HK.out, HG.out⟩
/-- l with m's from S on from D on, k many. -/
def copY (l m : List Int) (D S k : Nat) : List Int := l.take D ++ ((m.drop S).take k ++ l.drop (D + k))
theorem copY_0 (l m : List Int) (D S : Nat) : copY l m D S 0 = l := by simp [copY]
theorem copY_len (l m : List Int) (D S : Nat) (k : Nat) (h : D + k ≤ l.length) (h2 : S + k ≤ m.length) : (copY l m D S k).length = l.length := by simp [copY]; omega
theorem copY_set (l m : List Int) (D S k : Nat) (h1 : D + k < l.length) (h2 : S + k < m.length) : (copY l m D S k).set (D + k) (rd m ((S + k : Nat) : Int)) = copY l m D S (k + 1) := by
  unfold copY
  have e1 : (l.take D).length = D := by rw [List.length_take]; omega
  have e2 : ((m.drop S).take k).length = k := by rw [List.length_take, List.length_drop]; omega
  rw [List.set_append_right _ _ (by omega), List.set_append_right _ _ (by omega), e1, e2, show D + k - D - k = 0 by omega]
  rw [List.drop_eq_getElem_cons h1, List.set_cons_zero, List.take_succ_eq_append_getElem (by rw [List.length_drop]; omega), List.append_assoc]
  congr 2
  simp only [rd, List.getElem_drop, Int.toNat_natCast, List.singleton_append, Nat.add_assoc]
  congr 1
  rw [List.getD_eq_getElem?_getD, List.getElem?_eq_getElem h2]
  rfl
set_option maxHeartbeats 2000000 in
theorem copy_c (g c0 c1 : Nat) (l0 l1 : List Int) (A1 : Option Addr) (base : Nat) (ok : Nat → Prop) (d s k : Int) (D S K : Nat) (b : Bool) (w : World)
    (hR : Kd.R (Kd.int .u64) 23 w base ok (.slice (some ⟨g, 0, none⟩) l0.length c0) l0) (hC : Kd.C (Kd.int .u64) w A1 l1.length l1) (hc1 : l1.length ≤ c1)
    (hd : Go.bits .and .u64 d 4294967295 = D) (hs : Go.bits .and .u64 s 4294967295 = S) (hk : Go.bits .and .u64 k 4294967295 = K) (hb : (decide (D + K ≤ l0.length) && decide (S + K ≤ l1.length)) = b) :
    Calls Try.prog 23 #[.slice (some ⟨g, 0, none⟩) l0.length c0, .slice A1 l1.length c1, .int .u64 d, .int .u64 s, .int .u64 k] w fun e w' => e = .returned (.int .i64 (okOr b)) ∧ Kd.R (Kd.int .u64) 23 w' base ok (.slice (some ⟨g, 0, none⟩) l0.length c0) (copY l0 l1 D S (cnt b K)) ∧ w.grownBy w' (some g) := by
  cases b
  · obtain ⟨_, hc0, hC0⟩ := Kd.R_reads' hR
    have m0 : l0.length ≤ 9223372036854775807 := hC0.2.1
    have m1 : l1.length ≤ 9223372036854775807 := hC.2.1
    have HR := Lib.hid hR
    have HC := Lib.hid hC
    have HC0 := Lib.hid hC0
    clear hR hC hC0
    go_enter Try.func23, Try.ntmps23
    go_wp2_with fail
    by_cases h0 : D + K ≤ l0.length
    · have h1 : l1.length < S + K := by simp [h0] at hb; omega
      refine (table_row_fits.calls _ c0 l0 D K true _ HC0.out hc0 (rowfits_yes l0 D K m0 h0)).mono ?_
      rintro e w' ⟨rfl, ⟨n1, rfl⟩⟩
      go_wp2_with fail
      refine (table_row_fits.calls _ c1 l1 S K false _ (Kd.C_drewN HC.out n1) hc1 (rowfits_no l1 S K m1 h1)).mono ?_
      rintro e w' ⟨rfl, ⟨n2, rfl⟩⟩
      go_wp2
      go_ret
      refine ⟨rfl, ?_, ⟨rfl, rfl, rfl, Nat.le_refl _, fun k _ _ => rfl⟩⟩
      show Kd.R (Kd.int .u64) 23 _ base ok _ (copY l0 l1 D S 0)
      rw [copY_0]
      exact Kd.R_drewN HR.out _
    · refine (table_row_fits.calls _ c0 l0 D K false _ HC0.out hc0 (rowfits_no l0 D K m0 (by omega))).mono ?_
      rintro e w' ⟨rfl, ⟨n1, rfl⟩⟩
      go_wp2
      go_ret
      refine ⟨rfl, ?_, ⟨rfl, rfl, rfl, Nat.le_refl _, fun k _ _ => rfl⟩⟩
      show Kd.R (Kd.int .u64) 23 _ base ok _ (copY l0 l1 D S 0)
      rw [copY_0]
      exact Kd.R_drewN HR.out _
  · rw [Bool.and_eq_true] at hb
    exact copy_yes g c0 c1 l0 l1 A1 base ok d s k D S K w hR hC hc1 hd hs hk (of_decide_eq_true hb.1) (of_decide_eq_true hb.2)
theorem fitsr_c (n D K : Nat) (w : World) (hn : n ≤ 9223372036854775807) (b : Bool) (hb : decide (D + K ≤ n) = b) :
    Calls Try.prog 21 #[.int .i64 n, .int .u64 D, .int .u64 K] w fun e w' => e = .returned (.bool b) ∧ Drawn0 w w' := by
  have q0 : decide ((n : Int) ≥ 0) = true := decide_eq_true (by omega)
  go_enter Try.func21, Try.ntmps21
  cases b
  · have hlt := of_decide_eq_false hb
    by_cases h1 : D ≤ n
    · have q1 : decide ((D : Int) ≤ n) = true := decide_eq_true (by omega)
      have q2 : decide ((K : Int) ≤ (n : Int) - D) = false := decide_eq_false (by omega)
      go_wp2
      go_ret
      exact ⟨by first | rfl | (simp; done) | (simp [*]; done), Drawn0.refl _⟩
    · have q1 : decide ((D : Int) ≤ n) = false := decide_eq_false (by omega)
      go_wp2
      go_ret
      exact ⟨by first | rfl | (simp; done) | (simp [*]; done), Drawn0.refl _⟩
  · have hlt := of_decide_eq_true hb
    have q1 : decide ((D : Int) ≤ n) = true := decide_eq_true (by omega)
    have q2 : decide ((K : Int) ≤ (n : Int) - D) = true := decide_eq_true (by omega)
    go_wp2
    go_ret
    exact ⟨by first | rfl | (simp; done) | (simp [*]; done), Drawn0.refl _⟩
end Go.Proofs.Ytfjnhdbbjggkmaa.Mem
