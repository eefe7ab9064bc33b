/- Lemmas of the walk, part 14. -/
import Derived.Test.YtmnebeikafigjaaGreatDoorJ13
/- law18's gives, walked. -/
set_option linter.unusedVariables false
set_option linter.unusedSimpArgs false
namespace Go.Proofs.YtmnebeikafigjaaGreatDoor
open Go.RowKit Go.Sep Go.St
/-- What gives answers, by what its body comes to. -/
def GivesOk (e0 : Int) (want : List Int) (ov : Bool) (er : Int) (va : List Int) (res : Bool) : Prop :=
  (ov = true ∧ e0 = er ∧ e0 ≠ 0 ∧ res = true) ∨ (ov = true ∧ e0 = 0 ∧ er = 0 ∧ res = true ∧ ∃ x, va = [x] ∧ want = [x]) ∨ (ov = false ∧ e0 ≠ 13 ∧ res = false)
def RanQ (w w7 : World) (e0 : Int) (want : List Int) (ov : Bool) (er : Int) (va : List Int) (res : Bool) (e : Ending) (w' : World) : Prop :=
  ∃ A n c er', e = .returned (.tuple #[.slice A n c, .int .i64 er']) ∧ Same0 w7 w' ∧ Same0 w w' ∧ ((er' = e0 ∧ e0 ≠ 0 ∧ res = true) ∨ (er' = 0 ∧ e0 = 0 ∧ res = true ∧ ∃ x, want = [x] ∧ n = 1 ∧ RdL w' (AllB w') 1 (num1 .u64) (.slice A 1 c) [x]) ∨ (e0 ≠ er' ∧ res = false))
theorem ranQ {w w7 w' : World} {e0 : Int} {want : List Int} {ov : Bool} {er : Int} {va : List Int} {res : Bool} {e : Ending} (h : Same0 w w7) (hr : RanR w7 ov er va e w') (hg : GivesOk e0 want ov er va res) : RanQ w w7 e0 want ov er va res e w' := by
  rcases hg with ⟨rfl, rfl, h0, rfl⟩ | ⟨rfl, rfl, rfl, rfl, x, rfl, rfl⟩ | ⟨rfl, h0, rfl⟩
  · obtain ⟨hs, A, c, rfl, _⟩ := hr
    exact ⟨A, _, c, _, rfl, hs, h.trans hs, .inl ⟨rfl, h0, rfl⟩⟩
  · obtain ⟨hs, A, c, rfl, hx⟩ := hr
    exact ⟨A, _, c, _, rfl, hs, h.trans hs, .inr (.inl ⟨rfl, rfl, rfl, x, rfl, rfl, hx⟩)⟩
  · obtain ⟨hs, rfl⟩ := hr
    exact ⟨_, _, _, _, rfl, hs, h.trans hs, .inr (.inr ⟨h0, rfl⟩)⟩
theorem Rd.below {w w1 : World} {sz n : Nat} {A : Option Addr} {xs : List Value} (h : Rd w sz A n xs) (q : Below w.heap.size w w1) : Rd w1 sz A n xs := by
  refine ⟨h.1, fun hp => ?_⟩
  obtain ⟨a, rfl, hs, hc⟩ := h.2 hp
  refine ⟨a, rfl, hs, fun j u hu => ?_⟩
  have h1 := hc j u hu
  rw [q.cell (World.block_lt_of_cell? _ _ h1)]
  exact h1
set_option maxRecDepth 100000 in
set_option maxHeartbeats 4000000 in
theorem gives_c (w : World) (l : List Ins) (es : Es) (e0 : Int) (want : List Int) (ov : Bool) (er : Int) (va : List Int) (res : Bool) (hc : Comes (l ++ [ins 11]) es ov er va) (hg : GivesOk e0 want ov er va res) (hl : ∀ x ∈ l, x.l = [])
    {bA wA : Option Addr} {bn bc wc : Nat} (hb : Row w 29 6 (.slice bA bn bc) (iFlat l)) (hw : RdL w (AllB w) 1 (num1 .u64) (.slice wA want.length wc) want) :
    Calls Tryz.prog 11 #[.int .i64 1, .slice bA bn bc, .int .i64 e0, .slice wA want.length wc] w fun e w' => e = .returned (.bool res) ∧ Same0 w w' := by
  obtain ⟨A9, n9, c9, hv9, hn9, hm9, hl9, hrd⟩ := hb.rd
  cases hv9
  have HL := Lib.hid hc.1.len
  have HC := Lib.hid hc
  have HG := Lib.hid hg
  have HLL := Lib.hid hl
  have HRD := Lib.hid (And.intro hrd hw)
  generalize hwn : want.length = wn at HRD
  clear hc hg hl hb hw hrd hn9 hm9 hl9
  go_enter Tryz.func11, Tryz.ntmps11
  go_upto_region 2 with (fail)
  refine all_worldC (fun W' => Below w.heap.size w W' ∧ W'.cell? ⟨w.heap.size + 1, 0, none⟩ = some (.slice none 0 0) ∧ W'.cell? ⟨w.heap.size + 1, 1, none⟩ = some (.slice (some ⟨w.heap.size, 0, none⟩) 1 4) ∧ W'.cell? ⟨w.heap.size, 0, none⟩ = some (.int .u8 127)) ⟨((Below.refl _ _).alloc (Nat.le_refl _) _).alloc (by simp) _, by simp, by simp, by simp⟩ ?_
  rintro w2 ⟨hb2, t0, t1, n0⟩
  generalize w.heap.size + 1 = tB0 at t0 t1 ⊢
  have HS2 := Lib.hid (Same0.of_below hb2)
  have hlt : tB0 < w2.heap.size := World.block_lt_of_cell? _ _ t0
  have hlt2 : w.heap.size < w2.heap.size := World.block_lt_of_cell? _ _ n0
  have HT := Lib.hid (show ∀ W', Below w2.heap.size w2 W' → W'.cell? ⟨tB0, 0, none⟩ = some (.slice none 0 0) ∧ W'.cell? ⟨tB0, 1, none⟩ = some (.slice (some ⟨w.heap.size, 0, none⟩) 1 4) from fun W' q => ⟨(q.cell (p := ⟨tB0, 0, none⟩) hlt).trans t0, (q.cell (p := ⟨tB0, 1, none⟩) hlt).trans t1⟩)
  have HT8 := Lib.hid (show ∀ w7 w8, Below w2.heap.size w2 w7 → Same0 w7 w8 → w8.cell? ⟨tB0, 0, none⟩ = some (.slice none 0 0) ∧ w8.cell? ⟨tB0, 1, none⟩ = some (.slice (some ⟨w.heap.size, 0, none⟩) 1 4) from fun w7 w8 q r => by
    have e : w8.heap[tB0]? = w7.heap[tB0]? := r.block tB0 (Nat.lt_of_lt_of_le hlt q.size)
    obtain ⟨h1, h2⟩ := HT.out w7 q
    exact ⟨(World.cell?_of_block (a := ⟨tB0, 0, none⟩) e).trans h1, (World.cell?_of_block (a := ⟨tB0, 1, none⟩) e).trans h2⟩)
  have HRR := Lib.hid (show ∀ W', Below w2.heap.size w2 W' → Rd W' 6 bA bn (iFlat l) from fun W' q => Rd.below (Rd.below HRD.out.1 hb2) q)
  have HRAN := Lib.hid (show ∀ (w7 : World) (B : Option Addr) (q c : Nat), Below w2.heap.size w2 w7 ∧ Row w7 29 6 (.slice B q c) (iFlat (l ++ [ins 11])) → Calls Tryz.prog 31 #[.agg #[.slice none 0 0, .slice (some ⟨w.heap.size, 0, none⟩) 1 4], .slice B q c, .slice none 0 0] w7 (RanQ w w7 e0 want ov er va res) from by
    rintro w7 B q c ⟨q7, hr7⟩
    obtain ⟨rfl, hrd7⟩ := row_body hr7 (fun x hx => by
      rcases List.mem_append.1 hx with hx | hx
      · exact HLL.out x hx
      · simp at hx; subst hx; rfl)
    have n7 : w7.cell? ⟨w.heap.size, 0, none⟩ = some (.int .u8 127) := (q7.cell (p := ⟨w.heap.size, 0, none⟩) hlt2).trans n0
    refine (ran_c w7 _ es ov er va HC.out ⟨_, _, rfl, by simp, by simp [maxLen], fun _ => ⟨_, _, rfl, Nat.lt_of_lt_of_le hlt2 q7.size, fun k x hx => ?_⟩, fun h => nomatch h⟩ hrd7).mono ?_
    · cases k with
      | zero =>
        cases hx
        exact ⟨[.int .u8 127], rfl, rfl, fun j u hu => by
          cases j with
          | zero => cases hu; exact n7
          | succ j => simp at hu⟩
      | succ k => simp at hx
    · rintro e w8 hR
      exact ranQ (HS2.out.trans (show Same0 w2 w7 from Same0.of_below q7)) hR HG.out)
  have HB := Lib.hid (show ([] ++ iFlat l).length * 56 ≤ 140737488355328 ∧ (0 + (iFlat l).length) * 56 ≤ 140737488355328 ∧ ((iFlat l).length + (iV (ins 11)).length) * 56 ≤ 140737488355328 by
    have := HL.out
    rw [List.length_append] at this
    simp only [List.nil_append, iFlat_len]
    simp [iV]
    omega)
  have H := Lib.hid (show Gv w2 w2.drew l none none from ⟨(Below.refl _ _).drew, fun _ h => (nomatch h), fun _ h => (nomatch h)⟩)
  clear hb2 n0 t0 t1 hlt hlt2
  refine wp_region_z (fun w' => w'.cell? ⟨tB0, 0, none⟩ = some (.slice none 0 0) ∧ w'.cell? ⟨tB0, 1, none⟩ = some (.slice (some ⟨w.heap.size, 0, none⟩) 1 4)) (fun j => j == 11 || j == 12) (by kernel_rfl) ?_ (fun hHeld => ?_)
  · first | exact HT.out _ H.out.bel | exact HT.out _ H7.out.1 | exact HT8.out _ _ H7.out.1 H8.out.1
  (refine wpZ_take (i := 0) (oi := ⟨some 17, .load 36 (.tmp 9), 36, _, _, none⟩) (v := ?_) rfl (by kernel_rfl) (fun _ _ _ h => h) (by assumption) (Or.inl ⟨by rfl, ?_⟩) ?_; rotate_left 1; · ((intro w hSw; (try dsimp only at hSw); go_split_ands; go_simp) <;> (try with_reducible rfl)))
  try simp only [Act.put, List.setIfInBounds_toArray, List.set_cons_zero, List.set_cons_succ]
  (refine wpZ_take (i := 2) (oi := ⟨some 19, .move (.tmp 1), 24, _, _, none⟩) (v := ?_) rfl (by kernel_rfl) (fun _ _ _ h => h) (by assumption) (Or.inl ⟨by rfl, ?_⟩) ?_; rotate_left 1; · ((intro w hSw; (try dsimp only at hSw); go_split_ands; go_simp) <;> (try with_reducible rfl)))
  try simp only [Act.put, List.setIfInBounds_toArray, List.set_cons_zero, List.set_cons_succ]
  (refine wpZ_take (i := 4) (oi := ⟨some 21, .build 29 #[(0, .const (.int .i64 11))], 29, _, _, none⟩) (v := ?_) rfl (by kernel_rfl) (fun _ _ _ h => h) (by assumption) (Or.inl ⟨by rfl, ?_⟩) ?_; rotate_left 1; · ((intro w hSw; (try dsimp only at hSw); go_split_ands; go_simp) <;> (try with_reducible rfl)))
  try simp only [Act.put, List.setIfInBounds_toArray, List.set_cons_zero, List.set_cons_succ]
  refine wpZ_two (i := 1) (j := 5) (oi := ⟨some 18, .buildSlice 24 0 #[], 24, _, _, none⟩) (oj := ⟨some 22, .buildSlice 24 1 #[(0, .tmp 21)], 24, _, _, none⟩) rfl rfl (by kernel_rfl) (fun K hK => ?_) (fun K hK => ?_)
  ·
    go_simp; refine all_worldC (fun W' => Gv w2 W' l _ _) (H.out.alloc _) ?_; intro w3 hF; have H := Lib.hid hF; clear hF
    refine hK.out _ _ (fun _ => by (first | exact HT.out _ H.out.bel | exact HT.out _ H7.out.1 | exact HT8.out _ _ H7.out.1 H8.out.1)) (fun hh => ?_)
    have hHeld := hh rfl
    clear hK K
    try simp only [Act.put, List.setIfInBounds_toArray, List.set_cons_zero, List.set_cons_succ]
    refine wpZ_two (i := 3) (j := 5) (oi := ⟨some 20, .call { callee := .builtin .append, args := #[.tmp 18, .tmp 19], argTypes := #[24, 24] }, 24, _, _, none⟩) (oj := ⟨some 22, .buildSlice 24 1 #[(0, .tmp 21)], 24, _, _, none⟩) rfl rfl (by kernel_rfl) (fun K hK => ?_) (fun K hK => ?_)
    ·
      refine step_append_row (by rfl) _ _ _ (by rfl) 29 6 _ 56 Tryz.underlying24 infoIns18 rfl (by omega) (by omega) (.slice (some ⟨_, 0, none⟩) 0 0) [] (by rfl) bA bn bc (iFlat l) (by rfl) (row_nil _ _ _ _) (HRR.out _ H.out.bel) (iFlat_one l) HB.out.2.1 ?_; intro B5 q5 c5 w5 hr hg ha; have H := Lib.hid (H.out.made (by rfl) hr.out hg.out ha.out); clear hr hg ha
      refine hK.out _ _ (fun _ => by (first | exact HT.out _ H.out.bel | exact HT.out _ H7.out.1 | exact HT8.out _ _ H7.out.1 H8.out.1)) (fun hh => ?_)
      have hHeld := hh rfl
      clear hK K
      try simp only [Act.put, List.setIfInBounds_toArray, List.set_cons_zero, List.set_cons_succ]
      refine wpZ_one (i := 5) (oi := ⟨some 22, .buildSlice 24 1 #[(0, .tmp 21)], 24, _, _, none⟩) rfl (by kernel_rfl) (fun K hK => ?_)
      go_simp; refine all_worldC (fun W' => Gv w2 W' l _ _) H.out.last ?_; intro w6 hF; have H := Lib.hid hF; clear hF
      refine hK.out _ _ (fun _ => by (first | exact HT.out _ H.out.bel | exact HT.out _ H7.out.1 | exact HT8.out _ _ H7.out.1 H8.out.1)) (fun hh => ?_)
      have hHeld := hh rfl
      clear hK K
      try simp only [Act.put, List.setIfInBounds_toArray, List.set_cons_zero, List.set_cons_succ]
      refine wpZ_one (i := 6) (oi := ⟨some 23, .call { callee := .builtin .append, args := #[.tmp 20, .tmp 22], argTypes := #[24, 24] }, 24, _, _, none⟩) rfl (by kernel_rfl) (fun K hK => ?_)
      refine step_append_row (by rfl) _ _ _ (by rfl) 29 6 _ 56 Tryz.underlying24 infoIns18 rfl (by omega) (by omega) (.slice B5 q5 c5) (iFlat l) (by rfl) _ 1 1 (iV (ins 11)) (by rfl) (H.out.row _ rfl).1 (H.out.end_ _ rfl).1 (iV_one _) HB.out.2.2 ?_; intro B7 q7 c7 w7 hr hg ha; have H7 := Lib.hid (H.out.done hr.out hg.out); clear hr hg ha
      refine hK.out _ _ (fun _ => by (first | exact HT.out _ H.out.bel | exact HT.out _ H7.out.1 | exact HT8.out _ _ H7.out.1 H8.out.1)) (fun hh => ?_)
      have hHeld := hh rfl
      clear hK K
      try simp only [Act.put, List.setIfInBounds_toArray, List.set_cons_zero, List.set_cons_succ]
      refine wpZ_one (i := 7) (oi := ⟨some 24, .call { callee := .value (.func 31), args := #[.tmp 17, .tmp 23, .const (.slice none 0 0)], argTypes := #[36, 24, 57] }, 78, _, _, none⟩) rfl (by kernel_rfl) (fun K hK => ?_)
      go_simp; refine (HRAN.out _ _ _ _ H7.out).mono ?_; rintro e w8 ⟨A8, n8, c8, er8, rfl, hq⟩; have H8 := Lib.hid hq; clear hq; go_wp2_with fail
      refine hK.out _ _ (fun _ => by (first | exact HT.out _ H.out.bel | exact HT.out _ H7.out.1 | exact HT8.out _ _ H7.out.1 H8.out.1)) (fun hh => ?_)
      have hHeld := hh rfl
      clear hK K
      try simp only [Act.put, List.setIfInBounds_toArray, List.set_cons_zero, List.set_cons_succ]
      (refine wpZ_take (i := 8) (oi := ⟨some 16, .move (.tmp 24), 78, _, _, none⟩) (v := ?_) rfl (by kernel_rfl) (fun _ _ _ h => h) (by assumption) (Or.inl ⟨by rfl, ?_⟩) ?_; rotate_left 1; · ((intro w hSw; (try dsimp only at hSw); go_split_ands; go_simp) <;> (try with_reducible rfl)))
      try simp only [Act.put, List.setIfInBounds_toArray, List.set_cons_zero, List.set_cons_succ]
      (refine wpZ_take (i := 9) (oi := ⟨some 25, .extract (.tmp 16) 0, 57, _, _, none⟩) (v := ?_) rfl (by kernel_rfl) (fun _ _ _ h => h) (by assumption) (Or.inl ⟨by rfl, ?_⟩) ?_; rotate_left 1; · ((intro w hSw; (try dsimp only at hSw); go_split_ands; go_simp) <;> (try with_reducible rfl)))
      try simp only [Act.put, List.setIfInBounds_toArray, List.set_cons_zero, List.set_cons_succ]
      refine wpZ_two (i := 10) (j := 11) (oi := ⟨some 26, .extract (.tmp 16) 1, 32, _, _, none⟩) (oj := ⟨some 10, .assign (.tmp 25), 57, _, _, none⟩) rfl rfl (by kernel_rfl) (fun K hK => ?_) (fun K hK => ?_)
      ·
        go_simp
        refine hK.out _ _ (fun _ => by (first | exact HT.out _ H.out.bel | exact HT.out _ H7.out.1 | exact HT8.out _ _ H7.out.1 H8.out.1)) (fun hh => ?_)
        have hHeld := hh rfl
        clear hK K
        try simp only [Act.put, List.setIfInBounds_toArray, List.set_cons_zero, List.set_cons_succ]
        refine wpZ_one (i := 11) (oi := ⟨some 10, .assign (.tmp 25), 57, _, _, none⟩) rfl (by kernel_rfl) (fun K hK => ?_)
        go_simp
        refine hK.out _ _ (fun h => by simp at h) (fun _ => ?_)
        clear hK K
        try simp only [Act.put, List.setIfInBounds_toArray, List.set_cons_zero, List.set_cons_succ]
        refine wpZ_one (i := 12) (oi := ⟨some 11, .assign (.tmp 26), 32, _, _, none⟩) rfl (by kernel_rfl) (fun K hK => ?_)
        go_simp
        refine hK.out _ _ (fun h => by simp at h) (fun _ => ?_)
        clear hK K
        try simp only [Act.put, List.setIfInBounds_toArray, List.set_cons_zero, List.set_cons_succ]
        refine wpZ_done (by kernel_rfl) ?_ _
        rcases H8.out.2.2 with ⟨rfl, h0, rfl⟩ | ⟨rfl, rfl, rfl, x, rfl, rfl, hx⟩ | ⟨h0, rfl⟩
        · have h1 : (er8 == 0) = false := beq_eq_false_iff_ne.2 h0
          have FIN := Lib.hid H8.out.2.1
          go_wp2_with fail
          go_ret
          exact ⟨rfl, FIN.out⟩
        · obtain rfl : 1 = wn := hwn
          have HSM := Lib.hid (same_c w8 x hx (HRD.out.2.mono (S' := AllB w8) ⟨⟨H8.out.2.1.size, H8.out.2.1.os, H8.out.2.1.output⟩, H8.out.2.1.block⟩ (fun b hb => Nat.lt_of_lt_of_le hb H8.out.2.1.size) (fun _ _ h => h)))
          have FIN := Lib.hid H8.out.2.1
          clear hx
          go_wp2_with fail
          refine HSM.out.mono ?_
          rintro e w9 ⟨rfl, hq9⟩
          have FIN := Lib.hid (FIN.out.trans (Same0.of_ro (hq9.ro fun b hb => hb)))
          clear hq9
          go_wp2_with fail
          go_ret
          exact ⟨rfl, FIN.out⟩
        · have h1 : (e0 == er8) = false := beq_eq_false_iff_ne.2 h0
          have FIN := Lib.hid H8.out.2.1
          go_wp2_with fail
          go_ret
          exact ⟨rfl, FIN.out⟩
      ·
        go_simp
        refine hK.out _ _ (fun h => by simp at h) (fun _ => ?_)
        clear hK K
        try simp only [Act.put, List.setIfInBounds_toArray, List.set_cons_zero, List.set_cons_succ]
        refine wpZ_one (i := 10) (oi := ⟨some 26, .extract (.tmp 16) 1, 32, _, _, none⟩) rfl (by kernel_rfl) (fun K hK => ?_)
        go_simp
        refine hK.out _ _ (fun _ => by (first | exact HT.out _ H.out.bel | exact HT.out _ H7.out.1 | exact HT8.out _ _ H7.out.1 H8.out.1)) (fun hh => ?_)
        have hHeld := hh rfl
        clear hK K
        try simp only [Act.put, List.setIfInBounds_toArray, List.set_cons_zero, List.set_cons_succ]
        refine wpZ_one (i := 12) (oi := ⟨some 11, .assign (.tmp 26), 32, _, _, none⟩) rfl (by kernel_rfl) (fun K hK => ?_)
        go_simp
        refine hK.out _ _ (fun h => by simp at h) (fun _ => ?_)
        clear hK K
        try simp only [Act.put, List.setIfInBounds_toArray, List.set_cons_zero, List.set_cons_succ]
        refine wpZ_done (by kernel_rfl) ?_ _
        rcases H8.out.2.2 with ⟨rfl, h0, rfl⟩ | ⟨rfl, rfl, rfl, x, rfl, rfl, hx⟩ | ⟨h0, rfl⟩
        · have h1 : (er8 == 0) = false := beq_eq_false_iff_ne.2 h0
          have FIN := Lib.hid H8.out.2.1
          go_wp2_with fail
          go_ret
          exact ⟨rfl, FIN.out⟩
        · obtain rfl : 1 = wn := hwn
          have HSM := Lib.hid (same_c w8 x hx (HRD.out.2.mono (S' := AllB w8) ⟨⟨H8.out.2.1.size, H8.out.2.1.os, H8.out.2.1.output⟩, H8.out.2.1.block⟩ (fun b hb => Nat.lt_of_lt_of_le hb H8.out.2.1.size) (fun _ _ h => h)))
          have FIN := Lib.hid H8.out.2.1
          clear hx
          go_wp2_with fail
          refine HSM.out.mono ?_
          rintro e w9 ⟨rfl, hq9⟩
          have FIN := Lib.hid (FIN.out.trans (Same0.of_ro (hq9.ro fun b hb => hb)))
          clear hq9
          go_wp2_with fail
          go_ret
          exact ⟨rfl, FIN.out⟩
        · have h1 : (e0 == er8) = false := beq_eq_false_iff_ne.2 h0
          have FIN := Lib.hid H8.out.2.1
          go_wp2_with fail
          go_ret
          exact ⟨rfl, FIN.out⟩
    ·
      go_simp; refine all_worldC (fun W' => Gv w2 W' l _ _) H.out.last ?_; intro w6 hF; have H := Lib.hid hF; clear hF
      refine hK.out _ _ (fun _ => by (first | exact HT.out _ H.out.bel | exact HT.out _ H7.out.1 | exact HT8.out _ _ H7.out.1 H8.out.1)) (fun hh => ?_)
      have hHeld := hh rfl
      clear hK K
      try simp only [Act.put, List.setIfInBounds_toArray, List.set_cons_zero, List.set_cons_succ]
      refine wpZ_one (i := 3) (oi := ⟨some 20, .call { callee := .builtin .append, args := #[.tmp 18, .tmp 19], argTypes := #[24, 24] }, 24, _, _, none⟩) rfl (by kernel_rfl) (fun K hK => ?_)
      refine step_append_row (by rfl) _ _ _ (by rfl) 29 6 _ 56 Tryz.underlying24 infoIns18 rfl (by omega) (by omega) (.slice (some ⟨_, 0, none⟩) 0 0) [] (by rfl) bA bn bc (iFlat l) (by rfl) (row_nil _ _ _ _) (HRR.out _ H.out.bel) (iFlat_one l) HB.out.2.1 ?_; intro B5 q5 c5 w5 hr hg ha; have H := Lib.hid (H.out.made (by rfl) hr.out hg.out ha.out); clear hr hg ha
      refine hK.out _ _ (fun _ => by (first | exact HT.out _ H.out.bel | exact HT.out _ H7.out.1 | exact HT8.out _ _ H7.out.1 H8.out.1)) (fun hh => ?_)
      have hHeld := hh rfl
      clear hK K
      try simp only [Act.put, List.setIfInBounds_toArray, List.set_cons_zero, List.set_cons_succ]
      refine wpZ_one (i := 6) (oi := ⟨some 23, .call { callee := .builtin .append, args := #[.tmp 20, .tmp 22], argTypes := #[24, 24] }, 24, _, _, none⟩) rfl (by kernel_rfl) (fun K hK => ?_)
      refine step_append_row (by rfl) _ _ _ (by rfl) 29 6 _ 56 Tryz.underlying24 infoIns18 rfl (by omega) (by omega) (.slice B5 q5 c5) (iFlat l) (by rfl) _ 1 1 (iV (ins 11)) (by rfl) (H.out.row _ rfl).1 (H.out.end_ _ rfl).1 (iV_one _) HB.out.2.2 ?_; intro B7 q7 c7 w7 hr hg ha; have H7 := Lib.hid (H.out.done hr.out hg.out); clear hr hg ha
      refine hK.out _ _ (fun _ => by (first | exact HT.out _ H.out.bel | exact HT.out _ H7.out.1 | exact HT8.out _ _ H7.out.1 H8.out.1)) (fun hh => ?_)
      have hHeld := hh rfl
      clear hK K
      try simp only [Act.put, List.setIfInBounds_toArray, List.set_cons_zero, List.set_cons_succ]
      refine wpZ_one (i := 7) (oi := ⟨some 24, .call { callee := .value (.func 31), args := #[.tmp 17, .tmp 23, .const (.slice none 0 0)], argTypes := #[36, 24, 57] }, 78, _, _, none⟩) rfl (by kernel_rfl) (fun K hK => ?_)
      go_simp; refine (HRAN.out _ _ _ _ H7.out).mono ?_; rintro e w8 ⟨A8, n8, c8, er8, rfl, hq⟩; have H8 := Lib.hid hq; clear hq; go_wp2_with fail
      refine hK.out _ _ (fun _ => by (first | exact HT.out _ H.out.bel | exact HT.out _ H7.out.1 | exact HT8.out _ _ H7.out.1 H8.out.1)) (fun hh => ?_)
      have hHeld := hh rfl
      clear hK K
      try simp only [Act.put, List.setIfInBounds_toArray, List.set_cons_zero, List.set_cons_succ]
      (refine wpZ_take (i := 8) (oi := ⟨some 16, .move (.tmp 24), 78, _, _, none⟩) (v := ?_) rfl (by kernel_rfl) (fun _ _ _ h => h) (by assumption) (Or.inl ⟨by rfl, ?_⟩) ?_; rotate_left 1; · ((intro w hSw; (try dsimp only at hSw); go_split_ands; go_simp) <;> (try with_reducible rfl)))
      try simp only [Act.put, List.setIfInBounds_toArray, List.set_cons_zero, List.set_cons_succ]
      (refine wpZ_take (i := 9) (oi := ⟨some 25, .extract (.tmp 16) 0, 57, _, _, none⟩) (v := ?_) rfl (by kernel_rfl) (fun _ _ _ h => h) (by assumption) (Or.inl ⟨by rfl, ?_⟩) ?_; rotate_left 1; · ((intro w hSw; (try dsimp only at hSw); go_split_ands; go_simp) <;> (try with_reducible rfl)))
      try simp only [Act.put, List.setIfInBounds_toArray, List.set_cons_zero, List.set_cons_succ]
      refine wpZ_two (i := 10) (j := 11) (oi := ⟨some 26, .extract (.tmp 16) 1, 32, _, _, none⟩) (oj := ⟨some 10, .assign (.tmp 25), 57, _, _, none⟩) rfl rfl (by kernel_rfl) (fun K hK => ?_) (fun K hK => ?_)
      ·
        go_simp
        refine hK.out _ _ (fun _ => by (first | exact HT.out _ H.out.bel | exact HT.out _ H7.out.1 | exact HT8.out _ _ H7.out.1 H8.out.1)) (fun hh => ?_)
        have hHeld := hh rfl
        clear hK K
        try simp only [Act.put, List.setIfInBounds_toArray, List.set_cons_zero, List.set_cons_succ]
        refine wpZ_one (i := 11) (oi := ⟨some 10, .assign (.tmp 25), 57, _, _, none⟩) rfl (by kernel_rfl) (fun K hK => ?_)
        go_simp
        refine hK.out _ _ (fun h => by simp at h) (fun _ => ?_)
        clear hK K
        try simp only [Act.put, List.setIfInBounds_toArray, List.set_cons_zero, List.set_cons_succ]
        refine wpZ_one (i := 12) (oi := ⟨some 11, .assign (.tmp 26), 32, _, _, none⟩) rfl (by kernel_rfl) (fun K hK => ?_)
        go_simp
        refine hK.out _ _ (fun h => by simp at h) (fun _ => ?_)
        clear hK K
        try simp only [Act.put, List.setIfInBounds_toArray, List.set_cons_zero, List.set_cons_succ]
        refine wpZ_done (by kernel_rfl) ?_ _
        rcases H8.out.2.2 with ⟨rfl, h0, rfl⟩ | ⟨rfl, rfl, rfl, x, rfl, rfl, hx⟩ | ⟨h0, rfl⟩
        · have h1 : (er8 == 0) = false := beq_eq_false_iff_ne.2 h0
          have FIN := Lib.hid H8.out.2.1
          go_wp2_with fail
          go_ret
          exact ⟨rfl, FIN.out⟩
        · obtain rfl : 1 = wn := hwn
          have HSM := Lib.hid (same_c w8 x hx (HRD.out.2.mono (S' := AllB w8) ⟨⟨H8.out.2.1.size, H8.out.2.1.os, H8.out.2.1.output⟩, H8.out.2.1.block⟩ (fun b hb => Nat.lt_of_lt_of_le hb H8.out.2.1.size) (fun _ _ h => h)))
          have FIN := Lib.hid H8.out.2.1
          clear hx
          go_wp2_with fail
          refine HSM.out.mono ?_
          rintro e w9 ⟨rfl, hq9⟩
          have FIN := Lib.hid (FIN.out.trans (Same0.of_ro (hq9.ro fun b hb => hb)))
          clear hq9
          go_wp2_with fail
          go_ret
          exact ⟨rfl, FIN.out⟩
        · have h1 : (e0 == er8) = false := beq_eq_false_iff_ne.2 h0
          have FIN := Lib.hid H8.out.2.1
          go_wp2_with fail
          go_ret
          exact ⟨rfl, FIN.out⟩
      ·
        go_simp
        refine hK.out _ _ (fun h => by simp at h) (fun _ => ?_)
        clear hK K
        try simp only [Act.put, List.setIfInBounds_toArray, List.set_cons_zero, List.set_cons_succ]
        refine wpZ_one (i := 10) (oi := ⟨some 26, .extract (.tmp 16) 1, 32, _, _, none⟩) rfl (by kernel_rfl) (fun K hK => ?_)
        go_simp
        refine hK.out _ _ (fun _ => by (first | exact HT.out _ H.out.bel | exact HT.out _ H7.out.1 | exact HT8.out _ _ H7.out.1 H8.out.1)) (fun hh => ?_)
        have hHeld := hh rfl
        clear hK K
        try simp only [Act.put, List.setIfInBounds_toArray, List.set_cons_zero, List.set_cons_succ]
        refine wpZ_one (i := 12) (oi := ⟨some 11, .assign (.tmp 26), 32, _, _, none⟩) rfl (by kernel_rfl) (fun K hK => ?_)
        go_simp
        refine hK.out _ _ (fun h => by simp at h) (fun _ => ?_)
        clear hK K
        try simp only [Act.put, List.setIfInBounds_toArray, List.set_cons_zero, List.set_cons_succ]
        refine wpZ_done (by kernel_rfl) ?_ _
        rcases H8.out.2.2 with ⟨rfl, h0, rfl⟩ | ⟨rfl, rfl, rfl, x, rfl, rfl, hx⟩ | ⟨h0, rfl⟩
        · have h1 : (er8 == 0) = false := beq_eq_false_iff_ne.2 h0
          have FIN := Lib.hid H8.out.2.1
          go_wp2_with fail
          go_ret
          exact ⟨rfl, FIN.out⟩
        · obtain rfl : 1 = wn := hwn
          have HSM := Lib.hid (same_c w8 x hx (HRD.out.2.mono (S' := AllB w8) ⟨⟨H8.out.2.1.size, H8.out.2.1.os, H8.out.2.1.output⟩, H8.out.2.1.block⟩ (fun b hb => Nat.lt_of_lt_of_le hb H8.out.2.1.size) (fun _ _ h => h)))
          have FIN := Lib.hid H8.out.2.1
          clear hx
          go_wp2_with fail
          refine HSM.out.mono ?_
          rintro e w9 ⟨rfl, hq9⟩
          have FIN := Lib.hid (FIN.out.trans (Same0.of_ro (hq9.ro fun b hb => hb)))
          clear hq9
          go_wp2_with fail
          go_ret
          exact ⟨rfl, FIN.out⟩
        · have h1 : (e0 == er8) = false := beq_eq_false_iff_ne.2 h0
          have FIN := Lib.hid H8.out.2.1
          go_wp2_with fail
          go_ret
          exact ⟨rfl, FIN.out⟩
  ·
    go_simp; refine all_worldC (fun W' => Gv w2 W' l _ _) H.out.last ?_; intro w6 hF; have H := Lib.hid hF; clear hF
    refine hK.out _ _ (fun _ => by (first | exact HT.out _ H.out.bel | exact HT.out _ H7.out.1 | exact HT8.out _ _ H7.out.1 H8.out.1)) (fun hh => ?_)
    have hHeld := hh rfl
    clear hK K
    try simp only [Act.put, List.setIfInBounds_toArray, List.set_cons_zero, List.set_cons_succ]
    refine wpZ_one (i := 1) (oi := ⟨some 18, .buildSlice 24 0 #[], 24, _, _, none⟩) rfl (by kernel_rfl) (fun K hK => ?_)
    go_simp; refine all_worldC (fun W' => Gv w2 W' l _ _) (H.out.alloc _) ?_; intro w3 hF; have H := Lib.hid hF; clear hF
    refine hK.out _ _ (fun _ => by (first | exact HT.out _ H.out.bel | exact HT.out _ H7.out.1 | exact HT8.out _ _ H7.out.1 H8.out.1)) (fun hh => ?_)
    have hHeld := hh rfl
    clear hK K
    try simp only [Act.put, List.setIfInBounds_toArray, List.set_cons_zero, List.set_cons_succ]
    refine wpZ_one (i := 3) (oi := ⟨some 20, .call { callee := .builtin .append, args := #[.tmp 18, .tmp 19], argTypes := #[24, 24] }, 24, _, _, none⟩) rfl (by kernel_rfl) (fun K hK => ?_)
    refine step_append_row (by rfl) _ _ _ (by rfl) 29 6 _ 56 Tryz.underlying24 infoIns18 rfl (by omega) (by omega) (.slice (some ⟨_, 0, none⟩) 0 0) [] (by rfl) bA bn bc (iFlat l) (by rfl) (row_nil _ _ _ _) (HRR.out _ H.out.bel) (iFlat_one l) HB.out.2.1 ?_; intro B5 q5 c5 w5 hr hg ha; have H := Lib.hid (H.out.made (by rfl) hr.out hg.out ha.out); clear hr hg ha
    refine hK.out _ _ (fun _ => by (first | exact HT.out _ H.out.bel | exact HT.out _ H7.out.1 | exact HT8.out _ _ H7.out.1 H8.out.1)) (fun hh => ?_)
    have hHeld := hh rfl
    clear hK K
    try simp only [Act.put, List.setIfInBounds_toArray, List.set_cons_zero, List.set_cons_succ]
    refine wpZ_one (i := 6) (oi := ⟨some 23, .call { callee := .builtin .append, args := #[.tmp 20, .tmp 22], argTypes := #[24, 24] }, 24, _, _, none⟩) rfl (by kernel_rfl) (fun K hK => ?_)
    refine step_append_row (by rfl) _ _ _ (by rfl) 29 6 _ 56 Tryz.underlying24 infoIns18 rfl (by omega) (by omega) (.slice B5 q5 c5) (iFlat l) (by rfl) _ 1 1 (iV (ins 11)) (by rfl) (H.out.row _ rfl).1 (H.out.end_ _ rfl).1 (iV_one _) HB.out.2.2 ?_; intro B7 q7 c7 w7 hr hg ha; have H7 := Lib.hid (H.out.done hr.out hg.out); clear hr hg ha
    refine hK.out _ _ (fun _ => by (first | exact HT.out _ H.out.bel | exact HT.out _ H7.out.1 | exact HT8.out _ _ H7.out.1 H8.out.1)) (fun hh => ?_)
    have hHeld := hh rfl
    clear hK K
    try simp only [Act.put, List.setIfInBounds_toArray, List.set_cons_zero, List.set_cons_succ]
    refine wpZ_one (i := 7) (oi := ⟨some 24, .call { callee := .value (.func 31), args := #[.tmp 17, .tmp 23, .const (.slice none 0 0)], argTypes := #[36, 24, 57] }, 78, _, _, none⟩) rfl (by kernel_rfl) (fun K hK => ?_)
    go_simp; refine (HRAN.out _ _ _ _ H7.out).mono ?_; rintro e w8 ⟨A8, n8, c8, er8, rfl, hq⟩; have H8 := Lib.hid hq; clear hq; go_wp2_with fail
    refine hK.out _ _ (fun _ => by (first | exact HT.out _ H.out.bel | exact HT.out _ H7.out.1 | exact HT8.out _ _ H7.out.1 H8.out.1)) (fun hh => ?_)
    have hHeld := hh rfl
    clear hK K
    try simp only [Act.put, List.setIfInBounds_toArray, List.set_cons_zero, List.set_cons_succ]
    (refine wpZ_take (i := 8) (oi := ⟨some 16, .move (.tmp 24), 78, _, _, none⟩) (v := ?_) rfl (by kernel_rfl) (fun _ _ _ h => h) (by assumption) (Or.inl ⟨by rfl, ?_⟩) ?_; rotate_left 1; · ((intro w hSw; (try dsimp only at hSw); go_split_ands; go_simp) <;> (try with_reducible rfl)))
    try simp only [Act.put, List.setIfInBounds_toArray, List.set_cons_zero, List.set_cons_succ]
    (refine wpZ_take (i := 9) (oi := ⟨some 25, .extract (.tmp 16) 0, 57, _, _, none⟩) (v := ?_) rfl (by kernel_rfl) (fun _ _ _ h => h) (by assumption) (Or.inl ⟨by rfl, ?_⟩) ?_; rotate_left 1; · ((intro w hSw; (try dsimp only at hSw); go_split_ands; go_simp) <;> (try with_reducible rfl)))
    try simp only [Act.put, List.setIfInBounds_toArray, List.set_cons_zero, List.set_cons_succ]
    refine wpZ_two (i := 10) (j := 11) (oi := ⟨some 26, .extract (.tmp 16) 1, 32, _, _, none⟩) (oj := ⟨some 10, .assign (.tmp 25), 57, _, _, none⟩) rfl rfl (by kernel_rfl) (fun K hK => ?_) (fun K hK => ?_)
    ·
      go_simp
      refine hK.out _ _ (fun _ => by (first | exact HT.out _ H.out.bel | exact HT.out _ H7.out.1 | exact HT8.out _ _ H7.out.1 H8.out.1)) (fun hh => ?_)
      have hHeld := hh rfl
      clear hK K
      try simp only [Act.put, List.setIfInBounds_toArray, List.set_cons_zero, List.set_cons_succ]
      refine wpZ_one (i := 11) (oi := ⟨some 10, .assign (.tmp 25), 57, _, _, none⟩) rfl (by kernel_rfl) (fun K hK => ?_)
      go_simp
      refine hK.out _ _ (fun h => by simp at h) (fun _ => ?_)
      clear hK K
      try simp only [Act.put, List.setIfInBounds_toArray, List.set_cons_zero, List.set_cons_succ]
      refine wpZ_one (i := 12) (oi := ⟨some 11, .assign (.tmp 26), 32, _, _, none⟩) rfl (by kernel_rfl) (fun K hK => ?_)
      go_simp
      refine hK.out _ _ (fun h => by simp at h) (fun _ => ?_)
      clear hK K
      try simp only [Act.put, List.setIfInBounds_toArray, List.set_cons_zero, List.set_cons_succ]
      refine wpZ_done (by kernel_rfl) ?_ _
      rcases H8.out.2.2 with ⟨rfl, h0, rfl⟩ | ⟨rfl, rfl, rfl, x, rfl, rfl, hx⟩ | ⟨h0, rfl⟩
      · have h1 : (er8 == 0) = false := beq_eq_false_iff_ne.2 h0
        have FIN := Lib.hid H8.out.2.1
        go_wp2_with fail
        go_ret
        exact ⟨rfl, FIN.out⟩
      · obtain rfl : 1 = wn := hwn
        have HSM := Lib.hid (same_c w8 x hx (HRD.out.2.mono (S' := AllB w8) ⟨⟨H8.out.2.1.size, H8.out.2.1.os, H8.out.2.1.output⟩, H8.out.2.1.block⟩ (fun b hb => Nat.lt_of_lt_of_le hb H8.out.2.1.size) (fun _ _ h => h)))
        have FIN := Lib.hid H8.out.2.1
        clear hx
        go_wp2_with fail
        refine HSM.out.mono ?_
        rintro e w9 ⟨rfl, hq9⟩
        have FIN := Lib.hid (FIN.out.trans (Same0.of_ro (hq9.ro fun b hb => hb)))
        clear hq9
        go_wp2_with fail
        go_ret
        exact ⟨rfl, FIN.out⟩
      · have h1 : (e0 == er8) = false := beq_eq_false_iff_ne.2 h0
        have FIN := Lib.hid H8.out.2.1
        go_wp2_with fail
        go_ret
        exact ⟨rfl, FIN.out⟩
    ·
      go_simp
      refine hK.out _ _ (fun h => by simp at h) (fun _ => ?_)
      clear hK K
      try simp only [Act.put, List.setIfInBounds_toArray, List.set_cons_zero, List.set_cons_succ]
      refine wpZ_one (i := 10) (oi := ⟨some 26, .extract (.tmp 16) 1, 32, _, _, none⟩) rfl (by kernel_rfl) (fun K hK => ?_)
      go_simp
      refine hK.out _ _ (fun _ => by (first | exact HT.out _ H.out.bel | exact HT.out _ H7.out.1 | exact HT8.out _ _ H7.out.1 H8.out.1)) (fun hh => ?_)
      have hHeld := hh rfl
      clear hK K
      try simp only [Act.put, List.setIfInBounds_toArray, List.set_cons_zero, List.set_cons_succ]
      refine wpZ_one (i := 12) (oi := ⟨some 11, .assign (.tmp 26), 32, _, _, none⟩) rfl (by kernel_rfl) (fun K hK => ?_)
      go_simp
      refine hK.out _ _ (fun h => by simp at h) (fun _ => ?_)
      clear hK K
      try simp only [Act.put, List.setIfInBounds_toArray, List.set_cons_zero, List.set_cons_succ]
      refine wpZ_done (by kernel_rfl) ?_ _
      rcases H8.out.2.2 with ⟨rfl, h0, rfl⟩ | ⟨rfl, rfl, rfl, x, rfl, rfl, hx⟩ | ⟨h0, rfl⟩
      · have h1 : (er8 == 0) = false := beq_eq_false_iff_ne.2 h0
        have FIN := Lib.hid H8.out.2.1
        go_wp2_with fail
        go_ret
        exact ⟨rfl, FIN.out⟩
      · obtain rfl : 1 = wn := hwn
        have HSM := Lib.hid (same_c w8 x hx (HRD.out.2.mono (S' := AllB w8) ⟨⟨H8.out.2.1.size, H8.out.2.1.os, H8.out.2.1.output⟩, H8.out.2.1.block⟩ (fun b hb => Nat.lt_of_lt_of_le hb H8.out.2.1.size) (fun _ _ h => h)))
        have FIN := Lib.hid H8.out.2.1
        clear hx
        go_wp2_with fail
        refine HSM.out.mono ?_
        rintro e w9 ⟨rfl, hq9⟩
        have FIN := Lib.hid (FIN.out.trans (Same0.of_ro (hq9.ro fun b hb => hb)))
        clear hq9
        go_wp2_with fail
        go_ret
        exact ⟨rfl, FIN.out⟩
      · have h1 : (e0 == er8) = false := beq_eq_false_iff_ne.2 h0
        have FIN := Lib.hid H8.out.2.1
        go_wp2_with fail
        go_ret
        exact ⟨rfl, FIN.out⟩
end Go.Proofs.YtmnebeikafigjaaGreatDoor
/- StepRoom, walked. -/
set_option linter.unusedVariables false
set_option linter.unusedSimpArgs false
namespace Go.Proofs.YtmnebeikafigjaaGreatDoor
open Go.RowKit Go.Sep Go.St
/-- A row of instructions that is the call's own. -/
structure Lr (W w : World) (v : Value) (l : List Ins) : Prop where
  same : Same0 W w
  row : Row w 29 6 v (iFlat l)
  fresh : ∀ k, rowBlock v = some k → W.heap.size ≤ k
variable {W w w1 : World} {v v1 : Value} {l : List Ins}
theorem Same0.of_still (h : Still w w1) : Same0 w w1 := Same0.of_ro (h.ro fun b hb => hb)
theorem Lr.keep (h : Lr W w v l) (k : Same0 w w1) : Lr W w1 v l := ⟨h.same.trans k, h.row.move fun b hb => k.block b (h.row.lt hb), h.fresh⟩
theorem Lr.alloc (h : Lr W w v l) (o : Obj) : Lr W (w.alloc o) v l := h.keep (Same0.of_still ((Still.refl _).alloc o))
theorem Lr.app {m : List Ins} (h : Lr W w v l) (hr : Row w1 29 6 v1 (iFlat l ++ iFlat m)) (hg : w.grownBy w1 (rowBlock v)) (ha : rowBlock v1 = rowBlock v ∨ ∃ k, rowBlock v1 = some k ∧ w.heap.size ≤ k) : Lr W w1 v1 (l ++ m) := by
  have hb : Below W.heap.size w w1 := (Below.refl _ _).grown hg h.same.size h.fresh
  refine ⟨⟨hb.os.trans h.same.os, hb.output.trans h.same.output, Nat.le_trans h.same.size hb.size, fun b hlt => (hb.block b hlt).trans (h.same.block b hlt)⟩, by rw [iFlat_app]; exact hr, fun k hk => ?_⟩
  rcases ha with ha | ⟨k', e, hk'⟩
  · rw [ha] at hk; exact h.fresh k hk
  · rw [e] at hk; cases hk; exact Nat.le_trans h.same.size hk'
theorem Lr.other {X n c : Nat} {vr : Value} (h : Lr W w (.slice (some ⟨X, 0, none⟩) n c) l) (hg : w.grownBy w1 (rowBlock vr)) (hf : ∀ k, rowBlock vr = some k → W.heap.size ≤ k) (hn : ∀ k, rowBlock vr = some k → k < X) : Lr W w1 (.slice (some ⟨X, 0, none⟩) n c) l := by
  have hb : Below W.heap.size w w1 := (Below.refl _ _).grown hg h.same.size hf
  refine ⟨⟨hb.os.trans h.same.os, hb.output.trans h.same.output, Nat.le_trans h.same.size hb.size, fun b hlt => (hb.block b hlt).trans (h.same.block b hlt)⟩, h.row.move fun b hb => hg.block b (h.row.lt hb) (fun e => ?_), h.fresh⟩
  have h1 := hn b e.symm
  simp only [rowBlock] at hb
  split at hb
  · cases hb
  · cases hb; omega
theorem Lr.nil (h : Same0 W w) : Lr W w (.slice none 0 0) [] := ⟨h, row_nil _ _ _ _, fun k hk => by simp [rowBlock] at hk⟩
theorem Lr.new (h : Same0 W w) (l : List Ins) (hl : l.length ≤ 1000) : Lr W (w.alloc (.cells (iFlat l).toArray 29)) (.slice (some ⟨w.heap.size, 0, none⟩) l.length l.length) l := by
  refine ⟨h.trans (Same0.of_still ((Still.refl _).alloc _)), ⟨_, _, _, rfl, iFlat_len l, (fun h => nomatch h), Nat.le_refl _, by simp [maxLen]; omega, fun _ => ⟨_, _, rfl, (Go.MapKept.heap_alloc w _).1, by simp [iFlat_len], ?_⟩⟩, fun k hk => ?_⟩
  · simp [← iFlat_len]
  · simp only [rowBlock] at hk
    split at hk
    · cases hk
    · cases hk; exact h.size
def bigL : List Ins := [ins 3 0 0 (-64), ins 65 0 1, ins 12, ins 11, ins 65 0 1]
def deepL : List Ins := [ins 65 0 1, ins 65 0 1, ins 16]
theorem rdl_3 {w : World} {x : Int} {b : Nat} (h : w.cell? ⟨b, 0, none⟩ = some (.int .u64 x)) : RdL w (AllB w) 1 (num1 .u64) (.slice (some ⟨b, 0, none⟩) 1 1) [x] := by
  refine ⟨_, _, rfl, by simp, by simp [maxLen], fun _ => ⟨_, _, rfl, World.block_lt_of_cell? _ _ h, fun k y hy => ?_⟩, fun h => nomatch h⟩
  cases k with
  | zero =>
    cases hy
    exact ⟨[.int .u64 x], rfl, rfl, fun j u hu => by
      cases j with
      | zero => cases hu; exact h
      | succ j => simp at hu⟩
  | succ k => simp at hy
theorem gives_deep {w : World} {A : Option Addr} {c : Nat} (h : Lr W w (.slice A 3 c) deepL) : Calls Tryz.prog 11 #[.int .i64 1, .slice A 3 c, .int .i64 8, .slice none 0 0] w fun e w' => e = .returned (.bool true) ∧ Same0 w w' :=
  gives_c w deepL (esOf deepB) 8 [] true 8 [] true deep_comes (.inl ⟨rfl, rfl, by omega, rfl⟩) (fun x hx => by simp [deepL, ins] at hx; rcases hx with rfl | rfl <;> rfl) h.row rdl_nil
theorem gives_big {w : World} {A B : Option Addr} {c d : Nat} (h : Lr W w (.slice A 5 c) bigL) (hw : RdL w (AllB w) 1 (num1 .u64) (.slice B 1 d) [1]) : Calls Tryz.prog 11 #[.int .i64 1, .slice A 5 c, .int .i64 0, .slice B 1 d] w fun e w' => e = .returned (.bool false) ∧ Same0 w w' :=
  gives_c w bigL (esOf bigB) 0 [1] false 0 [] false big_comes (.inr (.inr ⟨rfl, by omega, rfl⟩)) (fun x hx => by simp [bigL, ins] at hx; rcases hx with rfl | rfl | rfl | rfl | rfl <;> rfl) h.row hw
theorem gives_row {w : World} {A B : Option Addr} {n c d k : Nat} (hk : k ≤ 240) (h : Lr W w (.slice A n c) (List.replicate k (ins 65 0 1) ++ List.replicate k (ins 26) ++ [ins 65 0 3])) (hw : RdL w (AllB w) 1 (num1 .u64) (.slice B 1 d) [3]) : Calls Tryz.prog 11 #[.int .i64 1, .slice A n c, .int .i64 0, .slice B 1 d] w fun e w' => e = .returned (.bool true) ∧ Same0 w w' :=
  gives_c w (List.replicate k (ins 65 0 1) ++ List.replicate k (ins 26) ++ [ins 65 0 3]) [] 0 [3] true 0 [3] true (by have := row_comes hk; simpa [rowB] using this) (.inr (.inl ⟨rfl, rfl, rfl, rfl, 3, rfl, rfl⟩)) (fun x hx => by
    simp only [List.mem_append, List.mem_replicate, List.mem_cons, List.not_mem_nil, or_false] at hx
    rcases hx with (⟨_, rfl⟩ | ⟨_, rfl⟩) | rfl <;> rfl) h.row hw
set_option maxRecDepth 100000 in
set_option maxHeartbeats 4000000 in
theorem stepRoom_c (n : Nat) (hn : n < 65536) (W : World) : Calls Tryz.prog 3 #[.int .u16 (n : Int)] W fun e W' => e = .returned (.bool true) ∧ Same0 W W' := by
  go_enter Tryz.func3, Tryz.ntmps3
  go_wp2_with fail
  refine (begun18 W).mono ?_
  rintro e w1 ⟨rfl, hs1⟩
  have HS1 := Lib.hid hs1
  have k0 : (n : Int).tmod 500 = ((n % 500 : Nat) : Int) := by rw [Int.tmod_eq_emod_of_nonneg (by omega)]; omega
  have k1 : n % 500 < 500 := Nat.mod_lt _ (by omega)
  generalize n % 500 = k at k0 k1
  clear hs1
  have HK := Lib.hid k1
  clear k1
  have HBY := Lib.hid (show ∀ (l m : List Ins), l.length ≤ 2000 → m.length ≤ 1 → ((iFlat l).length + (iFlat m).length) * 56 ≤ 140737488355328 from fun l m h1 h2 => by rw [iFlat_len, iFlat_len]; omega)
  go_wp2_with fail
  go_loopw [4, 5] (fun rv i wr => ∃ j : Nat, j ≤ k ∧ i = .int .i64 j ∧ Lr W wr rv (List.replicate j (ins 65 0 1))) (fun _ i _ => k - (intOf i).toNat)
  case atStart => exact ⟨0, Nat.zero_le _, rfl, Lr.nil HS1.out⟩
  case round =>
    obtain ⟨j, hj, rfl, h⟩ := hrel
    obtain ⟨B, m, c, rfl, -, -, -, -⟩ := h.row.rd
    by_cases hlt : j < k
    · have d0 : decide ((j : Int) < (k : Int)) = true := decide_eq_true (by omega)
      have hi : IntKind.i64.wrap ((j : Int) + 1) = (j : Int) + 1 := IntWalk.i64_in _ (by have := HK.out; omega)
      have H := Lib.hid h
      have HJ := Lib.hid hlt
      clear h hj hlt
      go_wp2_with fail
      refine (num_c _ 1).mono ?_
      rintro e w2 ⟨rfl, hq⟩
      have H2 := Lib.hid ((H.out.keep (Same0.of_still hq)).alloc (.cells (iV (ins 65 0 1)).toArray 29))
      have RD := Lib.hid (rd_new w2 (iV (ins 65 0 1)) (e := 29) (sz := 6) rfl)
      have HB := Lib.hid (HBY.out (List.replicate j (ins 65 0 1)) [ins 65 0 1] (by simp; have := HK.out; have := HJ.out; omega) (by simp))
      clear hq
      go_wp2_with (at_builtin; refine wpList_append_row (by rfl) _ _ _ (by rfl) 29 6 _ 56 Tryz.underlying24 infoIns18 rfl (by omega) (by omega) (.slice B m c) (iFlat (List.replicate j (ins 65 0 1))) (by rfl) _ 1 1 (iV (ins 65 0 1)) (by rfl) H2.out.row RD.out (iV_one _) HB.out ?_; intro B5 q5 c5 w5 hr hg ha; have H5 := Lib.hid (H2.out.app (m := [ins 65 0 1]) hr.out hg.out ha.out); clear hr hg ha)
      go_roundw
      case rel => exact ⟨j + 1, HJ.out, by go_num, by rw [List.replicate_succ']; exact H5.out⟩
      case measure => (simp [intOf]; have := HJ.out; try omega)
    · obtain rfl : j = k := by omega
      have d0 : decide ((j : Int) < (j : Int)) = false := decide_eq_false (by omega)
      have HA := Lib.hid h
      clear h hj hlt
      go_wp2_with fail
      generalize hwr : wr = wo at *
      clear hwr
      go_loopw [4, 6] (fun rv i wr => ∃ q : Nat, q ≤ j ∧ i = .int .i64 q ∧ Lr W wr rv (List.replicate j (ins 65 0 1) ++ List.replicate q (ins 26))) (fun _ i _ => j - (intOf i).toNat)
      case atStart => exact ⟨0, Nat.zero_le _, rfl, by simpa using HA.out⟩
      case round =>
        obtain ⟨q, hq, rfl, h⟩ := hrel
        obtain ⟨B, m, c, rfl, -, -, -, -⟩ := h.row.rd
        by_cases hlt : q < j
        · have d0 : decide ((q : Int) < (j : Int)) = true := decide_eq_true (by omega)
          have hi : IntKind.i64.wrap ((q : Int) + 1) = (q : Int) + 1 := IntWalk.i64_in _ (by have := HK.out; omega)
          have H2 := Lib.hid (h.alloc (.cells (iV (ins 26)).toArray 29))
          have RD := Lib.hid (rd_new wr (iV (ins 26)) (e := 29) (sz := 6) rfl)
          have HB := Lib.hid (HBY.out (List.replicate j (ins 65 0 1) ++ List.replicate q (ins 26)) [ins 26] (by simp; have := HK.out; omega) (by simp))
          have HJ := Lib.hid hlt
          clear h hq hlt
          go_wp2_with (at_builtin; refine wpList_append_row (by rfl) _ _ _ (by rfl) 29 6 _ 56 Tryz.underlying24 infoIns18 rfl (by omega) (by omega) (.slice B m c) (iFlat (List.replicate j (ins 65 0 1) ++ List.replicate q (ins 26))) (by rfl) _ 1 1 (iV (ins 26)) (by rfl) H2.out.row RD.out (iV_one _) HB.out ?_; intro B5 q5 c5 w5 hr hg ha; have H5 := Lib.hid (H2.out.app (m := [ins 26]) hr.out hg.out ha.out); clear hr hg ha)
          go_roundw
          case rel => exact ⟨q + 1, HJ.out, by go_num, by rw [List.replicate_succ', ← List.append_assoc]; exact H5.out⟩
          case measure => (simp [intOf]; have := HJ.out; try omega)
        · obtain rfl : q = j := by omega
          have d0 : decide ((q : Int) < (q : Int)) = false := decide_eq_false (by omega)
          have HA := Lib.hid h
          clear h hq hlt
          go_wp2_with fail
          refine (num_c _ 1).mono ?_
          rintro e w2 ⟨rfl, hq⟩
          have HS := Lib.hid (Same0.of_still hq)
          clear hq
          have HA := Lib.hid (HA.out.keep HS.out)
          go_wp2_with fail
          refine (num_c _ 1).mono ?_
          rintro e w3 ⟨rfl, hq⟩
          have HS := Lib.hid (Same0.of_still hq)
          clear hq
          have HA := Lib.hid (HA.out.keep HS.out)
          go_wp2_with fail
          have HN3 := Lib.hid (show ∀ k, rowBlock (.slice B m c) = some k → k < w3.heap.size from fun k hk => HA.out.row.lt hk)
          have HBG := Lib.hid (show Lr W (w3.alloc (.cells (iFlat bigL).toArray 29)) (.slice (some ⟨w3.heap.size, 0, none⟩) 5 5) bigL from Lr.new HA.out.same bigL (by decide))
          have HA := Lib.hid (HA.out.alloc (.cells (iFlat bigL).toArray 29))
          refine (num_c _ 1).mono ?_
          rintro e w4 ⟨rfl, hq⟩
          have HS := Lib.hid (Same0.of_still hq)
          clear hq
          have HA := Lib.hid (HA.out.keep HS.out)
          have HBG := Lib.hid (HBG.out.keep HS.out)
          go_wp2_with fail
          refine (num_c _ 1).mono ?_
          rintro e w5 ⟨rfl, hq⟩
          have HS := Lib.hid (Same0.of_still hq)
          clear hq
          have HA := Lib.hid (HA.out.keep HS.out)
          have HBG := Lib.hid (HBG.out.keep HS.out)
          have HN5 := Lib.hid (show ∀ k, rowBlock (.slice B m c) = some k → k < w5.heap.size from fun k hk => HA.out.row.lt hk)
          go_upto_region 15 with (fail)
          have HDP := Lib.hid (show Lr W (w5.alloc (.cells (iFlat deepL).toArray 29)) (.slice (some ⟨w5.heap.size, 0, none⟩) 3 3) deepL from Lr.new HA.out.same deepL (by decide))
          refine all_worldC (fun W' => Lr W W' (.slice B m c) (List.replicate q (ins 65 0 1) ++ List.replicate q (ins 26)) ∧ Lr W W' (.slice (some ⟨w3.heap.size, 0, none⟩) 5 5) bigL ∧ Lr W W' (.slice (some ⟨w5.heap.size, 0, none⟩) 3 3) deepL) ⟨HA.out.alloc _, HBG.out.alloc _, HDP.out⟩ ?_
          rintro w6 ⟨ha, hb, hd⟩
          have HA := Lib.hid ha
          have HBG := Lib.hid hb
          have HDP := Lib.hid hd
          clear ha hb hd
          by_cases hbig : 240 < q
          · have d1 : decide ((240 : Int) < (q : Int)) = true := decide_eq_true (by omega)
            clear hbig
            go_wp2_with fail
            refine (gives_deep HDP.out).mono ?_
            rintro e w7 ⟨rfl, hs⟩
            have FIN := Lib.hid (HDP.out.same.trans hs)
            clear hs
            go_wp2_with fail
            go_ret
            exact ⟨rfl, FIN.out⟩
          · have d1 : decide ((240 : Int) < (q : Int)) = false := decide_eq_false (by omega)
            have HQ := Lib.hid (Nat.le_of_not_lt hbig)
            clear hbig
            go_wp2_with fail
            refine (num_c _ 3).mono ?_
            rintro e w7 ⟨rfl, hq⟩
            have HS := Lib.hid ((Same0.of_still hq).trans (Same0.of_still ((Still.refl _).alloc (.cells (iV (ins 65 0 3)).toArray 29))))
            have HA := Lib.hid (HA.out.keep HS.out)
            have HBG := Lib.hid (HBG.out.keep HS.out)
            have HDP := Lib.hid (HDP.out.keep HS.out)
            have RD := Lib.hid (rd_new w7 (iV (ins 65 0 3)) (e := 29) (sz := 6) rfl)
            have HB := Lib.hid (HBY.out (List.replicate q (ins 65 0 1) ++ List.replicate q (ins 26)) [ins 65 0 3] (by simp; have := HK.out; omega) (by simp))
            clear hq
            go_wp2_with (at_builtin; refine wpList_append_row (by rfl) _ _ _ (by rfl) 29 6 _ 56 Tryz.underlying24 infoIns18 rfl (by omega) (by omega) (.slice B m c) (iFlat (List.replicate q (ins 65 0 1) ++ List.replicate q (ins 26))) (by rfl) _ 1 1 (iV (ins 65 0 3)) (by rfl) HA.out.row RD.out (iV_one _) HB.out ?_; intro B8 q8 c8 w8 hr hg ha; have HBG := Lib.hid (HBG.out.other hg.out HA.out.fresh HN3.out); have HDP := Lib.hid (HDP.out.other hg.out HA.out.fresh HN5.out); have HA := Lib.hid (HA.out.app (m := [ins 65 0 3]) hr.out hg.out ha.out); clear hr hg ha)
            refine (gives_row HQ.out (HA.out.alloc _) (rdl_3 (by simp))).mono ?_
            rintro e w9 ⟨rfl, hs⟩
            have HBG := Lib.hid ((HBG.out.alloc _).keep hs)
            have HDP := Lib.hid ((HDP.out.alloc _).keep hs)
            clear hs
            go_wp2_with fail
            refine (gives_deep HDP.out).mono ?_
            rintro e w10 ⟨rfl, hs⟩
            have HBG := Lib.hid (HBG.out.keep hs)
            clear hs
            go_wp2_with fail
            refine (gives_big (HBG.out.alloc _) (rdl_3 (by simp))).mono ?_
            rintro e w11 ⟨rfl, hs⟩
            have FIN := Lib.hid ((HBG.out.alloc _).same.trans hs)
            clear hs
            go_wp2_with fail
            go_ret
            exact ⟨rfl, FIN.out⟩
end Go.Proofs.YtmnebeikafigjaaGreatDoor
