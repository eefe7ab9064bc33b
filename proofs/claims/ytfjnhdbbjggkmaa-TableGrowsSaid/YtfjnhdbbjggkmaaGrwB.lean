/- table.Grow and the document's: what they answer. -/
import Derived.Test.YtfjnhdbbjggkmaaGrwA
import Derived.Test.YtfjnhdbbjggkmaaPTableGrowsx1a
set_option linter.unusedVariables false
set_option linter.unusedSimpArgs false
namespace Go.Proofs.Ytfjnhdbbjggkmaa.Mem
open Go.RowKit Go.Sep Go.Proofs.YtfjnhdbbjggkmaaW.PrintWords Go.Proofs.YtfjnhdbbjggkmaaW.PrintLast Go.Proofs.YtfjnhdbbjggkmaaW.PrintMore Go.Proofs.Ytfjnhdbbjggkmaa.PTableAll Go.Proofs.Ytfjnhdbbjggkmaa.PTableGrows
theorem u64n (n : Nat) (h : n < 18446744073709551616) : IntKind.u64.wrap (n : Int) = n := IntWalk.u64_in _ (by omega)
theorem gt_l0 (v : Int) (size : Nat) (hs : size ≤ 1000) : ∀ (m : Nat) (X : List Int), X.length + m = size → cloakroomref13_GrowTable.l0 (m + 1) v (size : Int) X = some (X ++ List.replicate m v, true)
  | 0, X, h => by
    unfold cloakroomref13_GrowTable.l0
    rw [u64n _ (by omega), if_neg (by omega)]
    simp
  | m + 1, X, h => by
    unfold cloakroomref13_GrowTable.l0
    rw [u64n _ (by omega), if_pos (by omega), if_pos (by omega), gt_l0 v size hs m (X ++ [v]) (by simp; omega)]
    simp [List.replicate_succ]
def fits (l K : Nat) (mx : Int) (has : Bool) : Bool := decide (l + K ≤ 64) && (!has || decide (((l + K : Nat) : Int) ≤ mx))
def grown (l : List Int) (K : Nat) (v mx : Int) (has : Bool) : List Int := bif fits l.length K mx has then l ++ List.replicate K v else []
theorem gt_f (l : List Int) (v n mn mx : Int) (has : Bool) (K : Nat) (hn : Go.bits .and .u64 n 4294967295 = K) (hK : K < 4294967296) (hl : l.length ≤ 70) (hm : 0 ≤ mx ∧ mx < 4294967296) :
    cloakroomref13_GrowTable.f 140 l v n mn mx has = some (grown l K v mx has, fits l.length K mx has) := by
  unfold cloakroomref13_GrowTable.f cloakroomref13_low.f
  rw [hn]
  simp only [Option.bind_some]
  have e1 : IntKind.u64.wrap ((IntKind.u64.wrap (l.length : Int)) + (K : Int)) = ((l.length + K : Nat) : Int) := by rw [u64n _ (by omega), IntWalk.u64_in _ (by omega)]; omega
  have e2 : IntKind.u64.wrap mx = mx := IntWalk.u64_in _ (by omega)
  rw [e1, e2]
  have bad : cloakroomref13_GrowTable.j0 140 l v ((l.length + K : Nat) : Int) true = some ([], false) := rfl
  have good : l.length + K ≤ 64 → cloakroomref13_GrowTable.j0 140 l v ((l.length + K : Nat) : Int) false = some (l ++ List.replicate K v, true) := by
    intro h
    have hl0 := gt_l0 v (l.length + K) (by omega) K l rfl
    have mono : ∀ d, cloakroomref13_GrowTable.l0 (K + 1 + d) v ((l.length + K : Nat) : Int) l = some (l ++ List.replicate K v, true) := by
      intro d
      induction d with
      | zero => exact hl0
      | succ d ih => exact (cloakroomref13_GrowTable.mono_l (K + 1 + d)).2 _ _ _ _ ih
    have ej : cloakroomref13_GrowTable.j0 140 l v ((l.length + K : Nat) : Int) false = (if (0 + l.length) < 17592186044416 then (cloakroomref13_GrowTable.l0 139 v ((l.length + K : Nat) : Int) ([] ++ l)) else none) := rfl
    rw [ej, if_pos (by omega), List.nil_append]
    have := mono (138 - K)
    rw [show K + 1 + (138 - K) = 139 by omega] at this
    exact this
  unfold grown fits
  by_cases h64 : l.length + K ≤ 64
  · rw [if_neg (by omega)]
    cases has with
    | false =>
      rw [if_neg (by simp), good h64]
      simp only [decide_eq_true h64]
      rfl
    | true =>
      rw [if_pos rfl]
      by_cases hmx : ((l.length + K : Nat) : Int) ≤ mx
      · rw [decide_eq_false (by omega), good h64]
        simp only [decide_eq_true h64, decide_eq_true hmx]
        rfl
      · rw [decide_eq_true (by omega), bad]
        simp only [decide_eq_true h64, decide_eq_false hmx]
        rfl
  · rw [if_pos (by omega), bad]
    simp only [decide_eq_false h64]
    rfl
theorem row_of_R {w : World} {base : Nat} {ok : Nat → Prop} {v : Value} {xs : List Int} (h : Kd.R (Kd.int .u64) 23 w base ok v xs) : Row w 23 1 v (encs (Value.int .u64) xs) := by
  have h1 := Kd.own_of_R (enc := Value.int .u64) (h1 := fun _ => rfl) h
  exact Row.of_own h1
theorem spot_of_cell {w : World} {a : Addr} {u : Value} (h : w.cell? a = some u) : a.spot = none := by
  unfold World.cell? at h
  split at h
  · cases hs : a.spot with
    | none => rfl
    | some q =>
      rw [hs] at h
      simp at h
  · simp_all
  all_goals simp_all
theorem rd_of_C {w : World} {A : Option Addr} {xs : List Int} (h : Kd.C (Kd.int .u64) w A xs.length xs) : Rd w 1 A xs.length (encs (Value.int .u64) xs) := by
  refine ⟨by simp [encs], fun hp => ?_⟩
  have hat := fun (i : Int) h0 h1 => Kd.at_int h i h0 h1
  obtain ⟨ad, rfl, h0⟩ := hat 0 (by omega) (by omega)
  have e0 : ad.add (Int.toNat 0) = ad := by simp [Addr.add]
  rw [e0] at h0
  refine ⟨ad, rfl, spot_of_cell h0, fun j u hu => ?_⟩
  have hj : j < xs.length := by
    rcases Nat.lt_or_ge j xs.length with h | h
    · exact h
    · rw [List.getElem?_eq_none (by rw [encs_length]; exact h)] at hu
      cases hu
  obtain ⟨ad', e', hc⟩ := hat (j : Int) (by omega) (by omega)
  cases e'
  rw [Int.toNat_natCast] at hc
  rw [hc, ← hu, encs_get (d := (0 : Int)) _ j hj]
  simp [rd, List.getD_eq_getElem?_getD]
/-- The slice of what a row holds. -/
theorem C_of_mine {W w : World} {B : Option Addr} {n c : Nat} {xs : List Int} (h : Mine W w (.slice B n c) (encs (Value.int .u64) xs)) : n = xs.length ∧ n ≤ c ∧ Kd.C (Kd.int .u64) w B xs.length xs := by
  obtain ⟨A, m, c', e, h1, h2, h3, h4⟩ := h.1.rd
  cases e
  rw [encs_length, Nat.mul_one] at h3
  subst h3
  refine ⟨rfl, h1, Kd.C_of_reads (enc := Value.int .u64) (d := (0 : Int)) (h1 := fun _ => rfl) ⟨rfl, Nat.le_trans h1 (Nat.le_trans h2 (by simp [maxLen])), fun hp => ?_⟩⟩
  obtain ⟨a, e, _, hc⟩ := h4.2 hp
  exact ⟨a, e, fun j hj => hc j _ (encs_get (d := (0 : Int)) _ j hj)⟩
theorem Mine.nil {w w' : World} (h : Below w.heap.size w w') : Mine w w' (.slice none 0 0) [] := ⟨row_nil _ _ _ _, h, fun k hk => absurd (show none = some k from hk) (fun h => nomatch h)⟩
theorem Mine.base {w w1 w' : World} {v : Value} {xs : List Value} (h : Mine w1 w' v xs) (hb : Below w.heap.size w w1) : Mine w w' v xs := ⟨h.1, below_step hb h.2.1, fun k hk => Nat.le_trans hb.size (h.2.2 k hk)⟩
theorem C_one {w : World} {b : Nat} {v : Int} (h : w.cell? ⟨b, 0, none⟩ = some (.int .u64 v)) : Kd.C (Kd.int .u64) w (some ⟨b, 0, none⟩) 1 [v] :=
  Kd.C_of_reads (enc := Value.int .u64) (d := (0 : Int)) (h1 := fun _ => rfl) ⟨rfl, by omega, fun _ => ⟨_, rfl, fun j hj => by
    obtain rfl : j = 0 := by omega
    simpa [Addr.add] using h⟩⟩
theorem encs_one {α : Type} (enc : α → Value) (h : ∀ x, (enc x).oneCell' = true) {xs : List α} : ∀ u ∈ encs enc xs, u.oneCell' = true := by
  intro u hu
  simp only [encs, List.mem_map] at hu
  obtain ⟨q, _, rfl⟩ := hu
  exact h q
theorem cell_alloc2 (w : World) (o : Obj) (x : Value) (t : TypeId) : ((w.alloc o).alloc (.cells #[x] t)).cell? ⟨w.heap.size + 1, 0, none⟩ = some x := by
  rw [show w.heap.size + 1 = (w.alloc o).heap.size by simp]
  simp
def mostOf (mx : Int) (has : Bool) : Int := bif has then (if 64 < mx then 64 else mx) else 64
theorem fits_most (l K : Nat) (mx : Int) (has : Bool) (hm : 0 ≤ mx) : fits l K mx has = (decide ((l : Int) ≤ mostOf mx has) && decide ((K : Int) ≤ mostOf mx has - l)) := by
  unfold fits mostOf
  rw [Bool.eq_iff_iff]
  cases has <;> simp
  · omega
  · split <;> omega
set_option maxHeartbeats 2000000 in
theorem tgrow_c (A : Option Addr) (c : Nat) (l : List Int) (v n mn mx : Int) (has : Bool) (K : Nat) (w : World) (hC : Kd.C (Kd.int .u64) w A l.length l) (hc : l.length ≤ c) (hn : Go.bits .and .u64 n 4294967295 = K) (hl : l.length ≤ 70) (hm : 0 ≤ mx ∧ mx < 4294967296) :
    Calls Try.prog 24 #[.slice A l.length c, .int .u64 v, .int .u64 n, .agg #[.int .u32 mn, .int .u32 mx, .bool has]] w fun e w' => ∃ B m c', e = .returned (.tuple #[.slice B m c', .bool (fits l.length K mx has)]) ∧ Mine w w' (.slice B m c') (encs (Value.int .u64) (grown l K v mx has)) := by
  have HC := Lib.hid hC
  have HL := Lib.hid (And.intro hl hc)
  have e2 : IntKind.u64.wrap mx = mx := IntWalk.u64_in _ (by omega)
  have e1 : IntKind.u64.wrap (l.length : Int) = (l.length : Int) := u64n _ (by omega)
  have hq : 0 ≤ mostOf mx has ∧ mostOf mx has ≤ 64 := by unfold mostOf; cases has <;> simp; split <;> omega
  have hf := fits_most l.length K mx has hm.1
  have start : ∀ Q : World → Prop, (∀ w', Below w.heap.size w w' → Q w') → True := fun _ _ => trivial
  clear start hC
  cases has with
  | false =>
    by_cases h1 : (l.length : Int) ≤ 64
    · by_cases h2 : (K : Int) ≤ 64 - l.length
      · have d1 : decide ((l.length : Int) > 64) = false := decide_eq_false (by omega)
        have d1' : decide (64 < (l.length : Int)) = false := decide_eq_false (by omega)
        have hff : fits l.length K mx false = true := by rw [hf]; unfold mostOf; simp; omega
        have hg : grown l K v mx false = l ++ List.replicate K v := by unfold grown; rw [hff]; rfl
        rw [hff, hg]
        have q3 : IntKind.u64.wrap (64 - (l.length : Int)) = 64 - (l.length : Int) := IntWalk.u64_in _ (by omega)
        have d2 : decide ((K : Int) > 64 - l.length) = false := decide_eq_false (by omega)
        have d2' : decide (64 - (l.length : Int) < (K : Int)) = false := decide_eq_false (by omega)
        have q4 : IntKind.i64.wrap (K : Int) = K := IntWalk.i64_in _ (by omega)
        have hK64 := Lib.hid (show K ≤ 64 by omega)
        clear hf hq hff hg hl hc h1 h2
        go_enter Try.func24, Try.ntmps24
        go_wp2_with fail
        have HBa := Lib.hid (((Below.refl w.heap.size w).alloc (Nat.le_refl _) (.cells #[.int .u32 mn, .int .u32 mx, .bool false] 36)).alloc (by simp) (.cells #[.int .u64 v] 23))
        refine (repeat_c (w.heap.size + 1) 1 K v hK64.out _ (C_one (cell_alloc2 _ _ _ _))).mono ?_
        rintro e wr ⟨g, cr, rfl, hR, hbr⟩
        have HBr := Lib.hid (below_step HBa.out hbr)
        obtain ⟨Ar, mr, cr', ev, h1, h2, h3, h4⟩ := (row_of_R hR).rd
        cases ev
        have RD2 := Lib.hid h4
        have RD1 := Lib.hid (Rd.below (rd_of_C HC.out) HBr.out)
        clear hR hbr HBa h1 h2 h3 h4
        go_wp2_with fail
        refine (concat_c wr.heap.size 2 A (some ⟨g, 0, none⟩) l.length K c cr (encs (Value.int .u64) l) (encs (Value.int .u64) (List.replicate K v)) _ (by simp) (by simp) (RD1.out.alloc _) (RD2.out.alloc _) (by have := HL.out.1; omega) (by have := hK64.out; omega) (encs_one _ (fun _ => rfl)) (encs_one _ (fun _ => rfl))).mono ?_
        rintro e wc ⟨B, m, c5, rfl, hm⟩
        have HM := Lib.hid (hm.base (HBr.out.alloc HBr.out.size _))
        clear hm
        go_wp2
        go_ret2
        exact ⟨B, m, c5, rfl, by rw [encs_append]; exact HM.out⟩
      · have d1 : decide ((l.length : Int) > 64) = false := decide_eq_false (by omega)
        have d1' : decide (64 < (l.length : Int)) = false := decide_eq_false (by omega)
        have hff : fits l.length K mx false = false := by rw [hf]; unfold mostOf; simp; omega
        have hg : grown l K v mx false = [] := by unfold grown; rw [hff]; rfl
        rw [hff, hg]
        have q3 : IntKind.u64.wrap (64 - (l.length : Int)) = 64 - (l.length : Int) := IntWalk.u64_in _ (by omega)
        have d2 : decide ((K : Int) > 64 - l.length) = true := decide_eq_true (by omega)
        have d2' : decide (64 - (l.length : Int) < (K : Int)) = true := decide_eq_true (by omega)
        clear hf hq hff hg hl hc h1 h2
        go_enter Try.func24, Try.ntmps24
        go_wp2
        go_ret2
        exact ⟨none, 0, 0, rfl, Mine.nil ((Below.refl _ _).alloc (Nat.le_refl _) _)⟩
    · have d1 : decide ((l.length : Int) > 64) = true := decide_eq_true (by omega)
      have d1' : decide (64 < (l.length : Int)) = true := decide_eq_true (by omega)
      have hff : fits l.length K mx false = false := by rw [hf]; unfold mostOf; simp; omega
      have hg : grown l K v mx false = [] := by unfold grown; rw [hff]; rfl
      rw [hff, hg]
      clear hf hq hff hg hl hc h1
      go_enter Try.func24, Try.ntmps24
      go_wp2
      go_ret2
      exact ⟨none, 0, 0, rfl, Mine.nil ((Below.refl _ _).alloc (Nat.le_refl _) _)⟩
  | true =>
    have hq0 : 0 ≤ mostOf mx true := hq.1
    obtain ⟨q, hqq⟩ : ∃ q : Nat, mostOf mx true = q := ⟨(mostOf mx true).toNat, by omega⟩
    have hq3 := hqq
    rw [hqq] at hq
    have hmin : (if mx < 64 then mx else (64 : Int)) = q := by
      rw [← hqq]
      show _ = (if (64 : Int) < mx then 64 else mx)
      split <;> split <;> omega
    have hq1 : q ≤ 64 := by omega
    clear hq
    have hq : True := trivial
    by_cases h1 : (l.length : Int) ≤ (q : Int)
    · by_cases h2 : (K : Int) ≤ (q : Int) - l.length
      · have d1 : decide ((l.length : Int) > q) = false := decide_eq_false (by omega)
        have d1' : decide ((q : Int) < (l.length : Int)) = false := decide_eq_false (by omega)
        have d1'' : decide (q < l.length) = false := decide_eq_false (by omega)
        have hff : fits l.length K mx true = true := by rw [hf]; rw [hq3]; simp; omega
        have hg : grown l K v mx true = l ++ List.replicate K v := by unfold grown; rw [hff]; rfl
        rw [hff, hg]
        have q3 : IntKind.u64.wrap ((q : Int) - (l.length : Int)) = (q : Int) - (l.length : Int) := IntWalk.u64_in _ (by omega)
        have d2 : decide ((K : Int) > q - l.length) = false := decide_eq_false (by omega)
        have d2' : decide ((q : Int) - (l.length : Int) < (K : Int)) = false := decide_eq_false (by omega)
        have q4 : IntKind.i64.wrap (K : Int) = K := IntWalk.i64_in _ (by omega)
        have hK64 := Lib.hid (show K ≤ 64 by omega)
        clear hf hq0 hq3 hqq hff hg hl hc h1 h2
        go_enter Try.func24, Try.ntmps24
        go_wp2_with fail
        have HBa := Lib.hid (((Below.refl w.heap.size w).alloc (Nat.le_refl _) (.cells #[.int .u32 mn, .int .u32 mx, .bool true] 36)).alloc (by simp) (.cells #[.int .u64 v] 23))
        refine (repeat_c (w.heap.size + 1) 1 K v hK64.out _ (C_one (cell_alloc2 _ _ _ _))).mono ?_
        rintro e wr ⟨g, cr, rfl, hR, hbr⟩
        have HBr := Lib.hid (below_step HBa.out hbr)
        obtain ⟨Ar, mr, cr', ev, h1, h2, h3, h4⟩ := (row_of_R hR).rd
        cases ev
        have RD2 := Lib.hid h4
        have RD1 := Lib.hid (Rd.below (rd_of_C HC.out) HBr.out)
        clear hR hbr HBa h1 h2 h3 h4
        go_wp2_with fail
        refine (concat_c wr.heap.size 2 A (some ⟨g, 0, none⟩) l.length K c cr (encs (Value.int .u64) l) (encs (Value.int .u64) (List.replicate K v)) _ (by simp) (by simp) (RD1.out.alloc _) (RD2.out.alloc _) (by have := HL.out.1; omega) (by have := hK64.out; omega) (encs_one _ (fun _ => rfl)) (encs_one _ (fun _ => rfl))).mono ?_
        rintro e wc ⟨B, m, c5, rfl, hm⟩
        have HM := Lib.hid (hm.base (HBr.out.alloc HBr.out.size _))
        clear hm
        go_wp2
        go_ret2
        exact ⟨B, m, c5, rfl, by rw [encs_append]; exact HM.out⟩
      · have d1 : decide ((l.length : Int) > q) = false := decide_eq_false (by omega)
        have d1' : decide ((q : Int) < (l.length : Int)) = false := decide_eq_false (by omega)
        have d1'' : decide (q < l.length) = false := decide_eq_false (by omega)
        have hff : fits l.length K mx true = false := by rw [hf]; rw [hq3]; simp; omega
        have hg : grown l K v mx true = [] := by unfold grown; rw [hff]; rfl
        rw [hff, hg]
        have q3 : IntKind.u64.wrap ((q : Int) - (l.length : Int)) = (q : Int) - (l.length : Int) := IntWalk.u64_in _ (by omega)
        have d2 : decide ((K : Int) > q - l.length) = true := decide_eq_true (by omega)
        have d2' : decide ((q : Int) - (l.length : Int) < (K : Int)) = true := decide_eq_true (by omega)
        clear hf hq0 hq3 hqq hff hg hl hc h1 h2
        go_enter Try.func24, Try.ntmps24
        go_wp2
        go_ret2
        exact ⟨none, 0, 0, rfl, Mine.nil ((Below.refl _ _).alloc (Nat.le_refl _) _)⟩
    · have d1 : decide ((l.length : Int) > q) = true := decide_eq_true (by omega)
      have d1' : decide ((q : Int) < (l.length : Int)) = true := decide_eq_true (by omega)
      have d1'' : decide (q < l.length) = true := decide_eq_true (by omega)
      have hff : fits l.length K mx true = false := by rw [hf]; rw [hq3]; simp; omega
      have hg : grown l K v mx true = [] := by unfold grown; rw [hff]; rfl
      rw [hff, hg]
      clear hf hq0 hq3 hqq hff hg hl hc h1
      go_enter Try.func24, Try.ntmps24
      go_wp2
      go_ret2
      exact ⟨none, 0, 0, rfl, Mine.nil ((Below.refl _ _).alloc (Nat.le_refl _) _)⟩
end Go.Proofs.Ytfjnhdbbjggkmaa.Mem
