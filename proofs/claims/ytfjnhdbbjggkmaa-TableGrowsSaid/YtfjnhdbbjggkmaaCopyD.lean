/- table.Copy: its walk. -/
import Derived.Test.YtfjnhdbbjggkmaaCopyC
set_option linter.unusedVariables false
set_option linter.unusedSimpArgs false
namespace Go.Proofs.Ytfjnhdbbjggkmaa.Mem
open Go.RowKit Go.Proofs.YtfjnhdbbjggkmaaW.PrintWords Go.Proofs.YtfjnhdbbjggkmaaW.PrintLast Go.Proofs.YtfjnhdbbjggkmaaW.PrintMore Go.Proofs.Ytfjnhdbbjggkmaa.PTableAll
theorem rowfits_yes (l : List Int) (D K : Nat) (hl : l.length ≤ 9223372036854775807) (h : D + K ≤ l.length) : table_row_fits.f l D K = some true := by
  unfold table_row_fits.f
  rw [wrap_u64k, wrap_u64k, if_pos (by omega)]
  congr 1
  exact decide_eq_true (by omega)
theorem rowfits_no (l : List Int) (D K : Nat) (hl : l.length ≤ 9223372036854775807) (h : l.length < D + K) : table_row_fits.f l D K = some false := by
  unfold table_row_fits.f
  rw [wrap_u64k, wrap_u64k]
  split
  · congr 1
    exact decide_eq_false (by omega)
  · rfl
theorem cut_at (A : Option Addr) (n c D E : Nat) (h1 : D ≤ E) (h2 : E ≤ n) (hc : n ≤ c) (i j : Int) (hi : i = D) (hj : j = E) :
    ∃ B, (∀ W, (Instr.slice 42 (.slice A n c) (some (.int .u64 i)) (some (.int .u64 j)) none).run Try.prog W = .ok (.slice B (E - D) (c - D)) W) ∧ B = if c = D then A else A.map (·.add (D * 1)) := by
  subst hi hj
  obtain ⟨i5, h5, e5⟩ := Option.map_eq_some_iff.1 info23
  injection e5 with _ e5
  injection e5 with e5 _
  exact ⟨_, cut_mid 42 23 .u64 .u64 Try.underlying42 h5 1 e5 A n c D E (by omega) (by omega) (by omega) hc, rfl⟩
set_option maxHeartbeats 2000000 in
theorem copy_yes (g c0 c1 : Nat) (l0 l1 : List Int) (A1 : Option Addr) (base : Nat) (ok : Nat → Prop) (d s k : Int) (D S K : Nat) (w : World)
    (hR : Kd.R (Kd.int .u64) 23 w base ok (.slice (some ⟨g, 0, none⟩) l0.length c0) l0) (hC : Kd.C (Kd.int .u64) w A1 l1.length l1) (hc1 : l1.length ≤ c1)
    (hd : Go.bits .and .u64 d 4294967295 = D) (hs : Go.bits .and .u64 s 4294967295 = S) (hk : Go.bits .and .u64 k 4294967295 = K) (h0 : D + K ≤ l0.length) (h1 : S + K ≤ l1.length) :
    Calls Try.prog 23 #[.slice (some ⟨g, 0, none⟩) l0.length c0, .slice A1 l1.length c1, .int .u64 d, .int .u64 s, .int .u64 k] w fun e w' => e = .returned (.int .i64 0) ∧ Kd.R (Kd.int .u64) 23 w' base ok (.slice (some ⟨g, 0, none⟩) l0.length c0) (l0.take D ++ ((l1.drop S).take K ++ l0.drop (D + K))) ∧ w.grownBy w' (some g) := by
  obtain ⟨_, hc0, hC0⟩ := Kd.R_reads' hR
  have m0 : l0.length ≤ 9223372036854775807 := hC0.2.1
  have m1 : l1.length ≤ 9223372036854775807 := hC.2.1
  have HR := Lib.hid hR
  have HC := Lib.hid hC
  have HC0 := Lib.hid hC0
  clear hR hC hC0
  go_enter Try.func23, Try.ntmps23
  go_wp2_with fail
  refine (table_row_fits.calls _ c0 l0 D K true _ HC0.out hc0 (rowfits_yes l0 D K m0 h0)).mono ?_
  rintro e w' ⟨rfl, ⟨n1, rfl⟩⟩
  go_wp2_with fail
  refine (table_row_fits.calls _ c1 l1 S K true _ (Kd.C_drewN HC.out n1) hc1 (rowfits_yes l1 S K m1 h1)).mono ?_
  rintro e w' ⟨rfl, ⟨n2, rfl⟩⟩
  go_upto_region 4 with (fail)
  have HG := Lib.hid (show w.grownBy (w.drewN (n1 + n2)) (some g) from ⟨rfl, rfl, rfl, Nat.le_refl _, fun k _ _ => rfl⟩)
  have HR2 := Lib.hid (Kd.R_drewN HR.out (n1 + n2))
  have HC2 := Lib.hid (Kd.C_drewN HC.out (n1 + n2))
  clear HR HC HC0
  generalize w.drewN (n1 + n2) = w2 at HG HR2 HC2 ⊢
  have q1 : IntKind.u64.wrap ((D : Int) + K) = (D : Int) + K := by rw [wrap_u64k]; omega
  have q2 : IntKind.u64.wrap ((S : Int) + K) = (S : Int) + K := by rw [wrap_u64k]; omega
  have q3 : (D : Int) + K ≤ c0 := by omega
  have q4 : (S : Int) + K ≤ c1 := by omega
  have q5 : (D : Int) ≤ (D : Int) + K := by omega
  have q6 : (S : Int) ≤ (S : Int) + K := by omega
  have q7 : ((D : Int) + K).toNat - D = K := by omega
  have q8 : ((S : Int) + K).toNat - S = K := by omega
  rcases Nat.eq_zero_or_pos K with hz | hp
  · have HZ := Lib.hid hz
    have HCM := Lib.hid (show ∀ sp, Kd.C (Kd.int .u64) w2 sp K ((l1.drop S).take K) from fun sp => by subst hz; exact ⟨rfl, by simp, fun h => absurd h (Nat.lt_irrefl 0)⟩)
    clear hz
    obtain ⟨B1, hB1⟩ : ∃ B1, (if c0 = D then some (⟨g, 0, none⟩ : Addr) else some ⟨g, D, none⟩) = B1 := ⟨_, rfl⟩
    rcases A1 with _ | ad
    · go_region_law (refine step_copy_R rfl (.tmp 34) (.tmp 40) rfl rfl B1 none K (c0 - D) (c1 - S) (by first | (go_simp; done) | kernel_rfl) (by first | (go_simp; done) | kernel_rfl) g c0 D l0 ((l1.drop S).take K) base ok (by first | exact HR2.out | exact Kd.R_drew HR2.out | exact Kd.R_drewN HR2.out _) (fun h => absurd h (by have := HZ.out; omega)) (by first | exact HCM.out _ | exact Kd.C_drew (HCM.out _) | exact Kd.C_drewN (HCM.out _) _) h0 ?_; intro w5 hr5 hg5)
      have HR5 := hr5
      have HG5 := hg5
      go_wp2
      go_ret
      exact ⟨rfl, HR5.out, (HG.out.trans (⟨rfl, rfl, rfl, Nat.le_refl _, fun k _ _ => rfl⟩ : w2.grownBy w2.drew (some g))).trans HG5.out⟩
  
    · obtain ⟨B2, hB2⟩ : ∃ B2, (if c1 = S then some ad else some (ad.add S)) = B2 := ⟨_, rfl⟩
      go_region_law (refine step_copy_R rfl (.tmp 34) (.tmp 40) rfl rfl B1 B2 K (c0 - D) (c1 - S) (by first | (go_simp; done) | kernel_rfl) (by first | (go_simp; done) | kernel_rfl) g c0 D l0 ((l1.drop S).take K) base ok (by first | exact HR2.out | exact Kd.R_drew HR2.out | exact Kd.R_drewN HR2.out _) (fun h => absurd h (by have := HZ.out; omega)) (by first | exact HCM.out _ | exact Kd.C_drew (HCM.out _) | exact Kd.C_drewN (HCM.out _) _) h0 ?_; intro w5 hr5 hg5)
      have HR5 := hr5
      have HG5 := hg5
      go_wp2
      go_ret
      exact ⟨rfl, HR5.out, (HG.out.trans (⟨rfl, rfl, rfl, Nat.le_refl _, fun k _ _ => rfl⟩ : w2.grownBy w2.drew (some g))).trans HG5.out⟩
  
  · have n1 : ¬ c0 = D := by omega
    have n2 : ¬ c1 = S := by omega
    obtain ⟨ad, rfl, _⟩ := HC2.out.2.2 (by omega)
    have hcm := Kd.C_mid (c := c1) HC2.out (lo := S) (hi := S + K) (by omega) (by omega) hc1
    rw [List.drop_take, show S + K - S = K by omega, if_neg n2] at hcm
    rw [show ((l1.drop S).take K).length = K by rw [List.length_take, List.length_drop]; omega] at hcm
    have HCM := Lib.hid (show Kd.C (Kd.int .u64) w2 (some (ad.add S)) K ((l1.drop S).take K) by simpa [Kd.int, Kd.scalar] using hcm)
    clear hcm
    go_region_law (refine step_copy_R rfl (.tmp 34) (.tmp 40) rfl rfl (some ⟨g, D, none⟩) (some (ad.add S)) K (c0 - D) (c1 - S) (by first | (go_simp; done) | kernel_rfl) (by first | (go_simp; done) | kernel_rfl) g c0 D l0 ((l1.drop S).take K) base ok (by first | exact HR2.out | exact Kd.R_drew HR2.out | exact Kd.R_drewN HR2.out _) (fun _ => rfl) (by first | exact HCM.out | exact Kd.C_drew HCM.out | exact Kd.C_drewN HCM.out _) h0 ?_; intro w5 hr5 hg5)
    have HR5 := hr5
    have HG5 := hg5
    go_wp2
    go_ret
    exact ⟨rfl, HR5.out, (HG.out.trans (⟨rfl, rfl, rfl, Nat.le_refl _, fun k _ _ => rfl⟩ : w2.grownBy w2.drew (some g))).trans HG5.out⟩
end Go.Proofs.Ytfjnhdbbjggkmaa.Mem
