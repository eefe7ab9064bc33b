/- slices.Repeat, Grow, Concat for tables: begun. -/
import Derived.Test.YtfjnhdbbjggkmaaGrowC
import Derived.Lib.Hide
set_option linter.unusedVariables false
set_option linter.unusedSimpArgs false
namespace Go.Proofs.Ytfjnhdbbjggkmaa.Mem
open Go.RowKit Go.Proofs.YtfjnhdbbjggkmaaW.PrintWords Go.Proofs.YtfjnhdbbjggkmaaW.PrintLast Go.Proofs.YtfjnhdbbjggkmaaW.PrintMore Go.Proofs.Ytfjnhdbbjggkmaa.PTableAll
/-- n times v, then noughts. -/
def rp (v : Int) (n k : Nat) : List Int := List.replicate n v ++ List.replicate (k - n) 0
theorem rp_len (v : Int) (n k : Nat) (h : n ≤ k) : (rp v n k).length = k := by simp [rp]; omega
theorem rp_more (v : Int) (n k m : Nat) (h : n + m ≤ k) : (rp v n k).take n ++ (List.replicate m v ++ (rp v n k).drop (n + m)) = rp v (n + m) k := by
  unfold rp
  rw [List.take_append, List.length_replicate, Nat.sub_self, List.take_zero, List.append_nil, List.take_of_length_le (by rw [List.length_replicate]; omega), List.drop_append, List.length_replicate, List.drop_of_length_le (by rw [List.length_replicate]; omega), List.nil_append, List.drop_replicate, ← List.append_assoc, List.replicate_append_replicate, show k - n - (n + m - n) = k - (n + m) by omega]
theorem rp_one (v : Int) (k : Nat) : ([v] : List Int).take (min 1 (List.replicate k (0 : Int)).length) ++ (List.replicate k (0 : Int)).drop (min 1 (List.replicate k (0 : Int)).length) = rp v (min 1 k) k := by
  rw [List.length_replicate]
  cases k with
  | zero => rfl
  | succ k =>
    rw [show min 1 (k + 1) = 1 by omega]
    simp [rp]
set_option maxHeartbeats 2000000 in
theorem repeat_c (g1 c1 k : Nat) (v : Int) (hk : k ≤ 64) (w : World) (hC : Kd.C (Kd.int .u64) w (some ⟨g1, 0, none⟩) 1 [v]) :
    Calls Try.prog 30 #[.slice (some ⟨g1, 0, none⟩) 1 c1, .int .i64 k] w fun e w' => ∃ g c, e = .returned (.slice (some ⟨g, 0, none⟩) k c) ∧ Kd.R (Kd.int .u64) 23 w' w.heap.size (fun _ => True) (.slice (some ⟨g, 0, none⟩) k c) (List.replicate k v) ∧ Below w.heap.size w w' := by
  have HC := Lib.hid hC
  clear hC
  have hneg : decide ((k : Int) < 0) = false := decide_eq_false (by omega)
  have hz0 : decide ((k : Int) > 9223372036854775807) = false := decide_eq_false (by omega)
  go_enter Try.func30, Try.ntmps30
  go_wp2_with fail
  refine (mul_c k hk _).mono ?_
  rintro e w' ⟨rfl, ⟨n1, rfl⟩⟩
  have HB1 := Lib.hid (pw_below_drewN (Below.refl w.heap.size w) n1)
  generalize w.drewN n1 = wa at HB1 ⊢
  go_upto_region 7 with (((with_reducible refine gate_dst (N := 30) rfl ?_); refine Kd.R_make (Kd.int .u64) _ 23 rfl (N := 30) rfl 42 _ _ rfl k rfl rfl Try.underlying42 (.int .u64 0) 8 info23 rfl (by decide) (by omega) 0 (ok := fun _ => True) (okp := fun _ => True) rfl (fun _ hk => hk) trivial (by omega) (by omega) (Below.refl _ _) (Nat.le_refl _) ?_; intro v2 w2 ho2 hb2 hg2 hn2))
  have HBm := Lib.hid (below_step HB1.out hb2)
  have hle := below_size HB1.out
  have HLE := Lib.hid hle
  obtain ⟨c, ev⟩ : ∃ c, v2 = .slice (v2.ownBlock.map fun b => ⟨b, 0, none⟩) k c := by
    obtain ⟨A2, c2, e2⟩ := Kd.R_slice ho2
    subst e2
    obtain ⟨b, hb, _⟩ := hn2
    obtain ⟨g, eg⟩ := R_someB ho2 hb
    subst eg
    refine ⟨c2, ?_⟩
    rw [List.length_replicate, Int.toNat_natCast]
    rfl
  obtain ⟨g, hg, _⟩ := hn2
  rw [hg, Option.map_some] at ev
  subst ev
  rw [Int.toNat_natCast] at ho2
  have HO := Lib.hid (show Kd.R (Kd.int .u64) 23 w2 wa.heap.size (fun _ => True) (.slice (some ⟨g, 0, none⟩) k c) (List.replicate k 0) from ho2)
  have HB2 := Lib.hid hb2
  have HCC := Lib.hid (Kd.C_below HC.out HBm.out)
  clear ho2 hb2 hg2 hg hle
  go_wp2_with ((with_reducible refine gate_builtin (b := .copy) (xs := #[.tmp 31, .tmp 32]) rfl ?_); refine Kd.R_copy (enc := Value.int .u64) (h1 := fun _ => rfl) (0 : Int) (w0 := wa) wa.heap.size rfl (.tmp 31) (.tmp 32) 42 42 23 rfl Try.underlying42 size23 _ (List.replicate k 0) [v] _ 1 c1 (fun _ => True) rfl rfl HO.out HCC.out HB2.out (below_size HB2.out) ?_; intro w3 ho3 hb3 hg3; have HO3 := Lib.hid ho3; have HB3 := Lib.hid hb3; clear ho3 hb3 hg3)
  have hrow := HO3.out
  have HL := Lib.hid (show Kd.R (Kd.int .u64) 23 w3 wa.heap.size (fun _ => True) (.slice (some ⟨g, 0, none⟩) k c) (rp v (min 1 k) k) from by
    have e : ([v] : List Int).take (min 1 (List.replicate k (0 : Int)).length) ++ (List.replicate k (0 : Int)).drop (min 1 (List.replicate k (0 : Int)).length) = rp v (min 1 k) k := rp_one v k
    rw [← e]
    exact hrow)
  have hin : (Kd.R_reads' HO.out).2.1 = (Kd.R_reads' HO.out).2.1 := rfl
  have hkc : k ≤ c := (Kd.R_reads' HO.out).2.1
  clear hrow hin HO3
  go_loopw [8] (fun i wr => ∃ n : Nat, n ≤ k ∧ (0 < k → 0 < n) ∧ i = .int .i64 n ∧ Kd.R (Kd.int .u64) 23 wr wa.heap.size (fun _ => True) (.slice (some ⟨g, 0, none⟩) k c) (rp v n k) ∧ w3.grownBy wr (some g)) (fun i _ => k - (intOf i).toNat)
  case atStart => exact ⟨min 1 k, by omega, by omega, by first | rfl | (simp; done) | (congr 1; omega), HL.out, World.grownBy.refl _ _⟩
  case round =>
    obtain ⟨n, hn, hp, rfl, hRk, hg⟩ := hrel
    have HK := Lib.hid hRk
    have HG := Lib.hid hg
    clear hRk hg
    by_cases hlt : n < k
    · have hcn : ¬ c = n := by omega
      have hm : min n (k - n) ≤ n := Nat.min_le_left ..
      have hm2 : min n (k - n) ≤ k - n := Nat.min_le_right ..
      have HKL := Lib.hid (show Kd.R (Kd.int .u64) 23 wr wa.heap.size (fun _ => True) (.slice (some ⟨g, 0, none⟩) (rp v n k).length c) (rp v n k) from by rw [rp_len v n k hn]; exact HK.out)
      have HCL := Lib.hid (show 0 < min n (k - n) → ∃ ad, some (⟨g, 0, none⟩ : Addr) = some ad ∧ ∀ j, j < min n (k - n) → wr.cell? (ad.add j) = some (.int .u64 ((List.replicate (min n (k - n)) v).getD j 0)) from by
        intro _
        refine ⟨_, rfl, fun j hj => ?_⟩
        obtain ⟨hc, _⟩ := Kd.R_celln 0 HK.out ((j : Nat) : Int) (by omega) (by omega)
        rw [add_plain, Int.toNat_natCast] at *
        rw [hc]
        congr 2
        have e1 : (rp v n k)[j]? = some v := by
          unfold rp
          rw [List.getElem?_append_left (by rw [List.length_replicate]; omega), List.getElem?_replicate, if_pos (by omega)]
        have e2 : (List.replicate (min n (k - n)) v)[j]? = some v := by rw [List.getElem?_replicate, if_pos hj]
        all_goals (simp [rdOf, List.getD_eq_getElem?_getD, e1, e2]))
      have q1 : (n : Int) ≤ c := by omega
      have q2 : (n : Int) ≤ k := by omega
      go_upto_region 9 with (fail)
      go_region_law (refine step_copy_R2 rfl (.tmp 41) (.tmp 44) rfl rfl (some ⟨g, n, none⟩) (some ⟨g, 0, none⟩) (min n (k - n)) (k - n) n (c - n) c rfl (by first | (go_simp; done) | kernel_rfl) (by first | (go_simp; done) | kernel_rfl) g c n (rp v n k) (List.replicate (min n (k - n)) v) wa.heap.size (fun _ => True) (Kd.R_drew HKL.out) (fun _ => rfl) List.length_replicate HCL.out (by rw [rp_len v n k hn]; omega) ?_; intro w5 hr5 hg5)
      have HR5 := hr5
      have HG5 := hg5
      clear hr5 hg5
      rw [rp_more v n k (min n (k - n)) (by omega), rp_len v n k hn] at HR5
      have qw : IntKind.i64.wrap ((n : Int) + ((min n (k - n) : Nat) : Int)) = ((n + min n (k - n) : Nat) : Int) := by rw [IntWalk.i64_in _ (by omega)]; omega
      try go_simp
      try rw [qw]
      go_roundw
      case rel =>
        have hgg := (HG.out.trans (⟨rfl, rfl, rfl, Nat.le_refl _, fun k _ _ => rfl⟩ : wr.grownBy wr.drew (some g))).trans HG5.out
        iterate 14 (apply Exists.intro)
        refine And.intro ?_ ?_
        rotate_left
        · rfl
        · exact ⟨n + min n (k - n), by omega, by omega, by congr 1, HR5.out, hgg⟩
      case measure => (simp [intOf]; try omega)
    · obtain rfl : k = n := by omega
      go_wp2
      go_ret
      refine ⟨g, c, rfl, ?_, pw_below_grown (below_step HB1.out HB3.out) (some g) (by have := below_size HB1.out; have := below_size HB3.out; omega) HG.out (fun b hb => by injection hb with hb; have := Kd.R_base HL.out g rfl; have := below_size HB1.out; omega)⟩
      have e : rp v k k = List.replicate k v := by simp [rp]
      rw [← e]
      exact Kd.R_lower HK.out HLE.out
end Go.Proofs.Ytfjnhdbbjggkmaa.Mem
