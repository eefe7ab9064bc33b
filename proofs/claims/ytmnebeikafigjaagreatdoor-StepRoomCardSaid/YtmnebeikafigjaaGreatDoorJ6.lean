/- Lemmas of the walk, part 6. -/
import Derived.Test.YtmnebeikafigjaaGreatDoorJ5
import Derived.LoopTactic
/- step's machine: what is no table's, memory's, bytes'; traps; numbers. -/
set_option linter.unusedVariables false
namespace Go.Proofs.YtmnebeikafigjaaGreatDoor
open Go.RowKit Go.Sep Go.St
variable {w : World} {S : Nat → Prop} {L : Key → Option Ck} {u : Nat} {P : Ptrs} {M : Mo} {s : Ms}
set_option maxRecDepth 100000 in
set_option maxHeartbeats 1000000 in
theorem tables_no (w : World) (x : Ins) (xl : Value) (hop : x.op ≠ 37 ∧ x.op ≠ 38 ∧ x.op ≠ 64524 ∧ x.op ≠ 64525 ∧ x.op ≠ 64526 ∧ x.op ≠ 64527 ∧ x.op ≠ 64528 ∧ x.op ≠ 64529) :
    Calls Tryz.prog 45 #[.pointer (some ⟨P.mB, 0, none⟩), insV x xl] w fun e w' => e = .returned (.bool false) ∧ Still w w' := by
  obtain ⟨a37, a38, a64524, a64525, a64526, a64527, a64528, a64529⟩ := hop
  have b37 : (x.op == 37) = false := beq_eq_false_iff_ne.2 a37
  have b38 : (x.op == 38) = false := beq_eq_false_iff_ne.2 a38
  have b64524 : (x.op == 64524) = false := beq_eq_false_iff_ne.2 a64524
  have b64525 : (x.op == 64525) = false := beq_eq_false_iff_ne.2 a64525
  have b64526 : (x.op == 64526) = false := beq_eq_false_iff_ne.2 a64526
  have b64527 : (x.op == 64527) = false := beq_eq_false_iff_ne.2 a64527
  have b64528 : (x.op == 64528) = false := beq_eq_false_iff_ne.2 a64528
  have b64529 : (x.op == 64529) = false := beq_eq_false_iff_ne.2 a64529
  unfold insV
  clear a37 a38 a64524 a64525 a64526 a64527 a64528 a64529
  go_enter Tryz.func45, Tryz.ntmps45
  go_wp2
  exact bodyPost_ret (v := .bool false) (by simp [results, Tryz.results45, go_sem]) rfl ⟨rfl, (Still.refl w).alloc _⟩
set_option maxRecDepth 100000 in
set_option maxHeartbeats 1000000 in
theorem bulk_no (w : World) (x : Ins) (xl : Value) (hop : x.op ≠ 63 ∧ x.op ≠ 64 ∧ x.op ≠ 64520 ∧ x.op ≠ 64521 ∧ x.op ≠ 64522 ∧ x.op ≠ 64523) :
    Calls Tryz.prog 46 #[.pointer (some ⟨P.mB, 0, none⟩), insV x xl] w fun e w' => e = .returned (.bool false) ∧ Still w w' := by
  obtain ⟨a63, a64, a64520, a64521, a64522, a64523⟩ := hop
  have b63 : (x.op == 63) = false := beq_eq_false_iff_ne.2 a63
  have b64 : (x.op == 64) = false := beq_eq_false_iff_ne.2 a64
  have b64520 : (x.op == 64520) = false := beq_eq_false_iff_ne.2 a64520
  have b64521 : (x.op == 64521) = false := beq_eq_false_iff_ne.2 a64521
  have b64522 : (x.op == 64522) = false := beq_eq_false_iff_ne.2 a64522
  have b64523 : (x.op == 64523) = false := beq_eq_false_iff_ne.2 a64523
  unfold insV
  clear a63 a64 a64520 a64521 a64522 a64523
  go_enter Tryz.func46, Tryz.ntmps46
  go_wp2
  exact bodyPost_ret (v := .bool false) (by simp [results, Tryz.results46, go_sem]) rfl ⟨rfl, (Still.refl w).alloc _⟩
set_option maxRecDepth 100000 in
set_option maxHeartbeats 1000000 in
theorem moves_no (w : World) (x : Ins) (xl : Value) (hop : x.op < 40 ∨ 62 < x.op) :
    Calls Tryz.prog 47 #[.pointer (some ⟨P.mB, 0, none⟩), insV x xl] w fun e w' => e = .returned (.bool false) ∧ Still w w' := by
  unfold insV
  by_cases h : x.op < 40
  · have d0 : decide (x.op < 40) = true := decide_eq_true h
    clear hop h
    go_enter Tryz.func47, Tryz.ntmps47
    go_wp2
    exact bodyPost_ret (v := .bool false) (by simp [results, Tryz.results47, go_sem]) rfl ⟨rfl, (Still.refl w).alloc _⟩
  · have d0 : decide (x.op < 40) = false := decide_eq_false h
    have d1 : decide ((62 : Int) < x.op) = true := decide_eq_true (by omega)
    clear hop h
    go_enter Tryz.func47, Tryz.ntmps47
    go_wp2
    exact bodyPost_ret (v := .bool false) (by simp [results, Tryz.results47, go_sem]) rfl ⟨rfl, (Still.refl w).alloc _⟩
theorem traps_no (w : World) (mp : Value) : Calls Tryz.prog 85 #[mp, .int .i64 0] w fun e w' => e = .returned (.bool false) ∧ Still w w' := by
  go_enter Tryz.func85, Tryz.ntmps85
  go_wp2
  exact bodyPost_ret (v := .bool false) (by simp [results, Tryz.results85, go_sem]) rfl ⟨rfl, Still.refl _⟩
theorem traps_yes (h : Md w S L u P M s) (e0 : Int) (he : e0 ≠ 0) : Calls Tryz.prog 85 #[.pointer (some ⟨P.mB, 0, none⟩), .int .i64 e0] w fun e w' => e = .returned (.bool true) ∧ To w S L u P M w' { s with c := endsC e0 } := by
  have d0 : (e0 != 0) = true := by simpa using he
  have HE := Lib.hid (ends_c h e0)
  clear h he
  go_enter Tryz.func85, Tryz.ntmps85
  go_wp2_with fail
  refine HE.out.mono ?_
  rintro e w1 ⟨rfl, ht⟩
  have HT := Lib.hid ht
  clear ht
  go_wp2
  exact bodyPost_ret (v := .bool true) (by simp [results, Tryz.results85, go_sem]) rfl ⟨rfl, HT.out⟩
/-- What num does with an instruction. -/
structure NumFn where
  n : Int
  one : Int → Int
  two : Int → Int → Int × Int
structure NumOk (op : Int) (F : NumFn) : Prop where
  n : 0 ≤ F.n ∧ F.n ≤ 2
  is : ∀ w, Calls Tryz.prog 99 #[.int .i64 op] w fun e w' => e = .returned (.int .i64 F.n) ∧ Still w w'
  one : F.n = 1 → ∀ (w : World) (v : Int), 0 ≤ v ∧ v < 18446744073709551616 → Calls Tryz.prog 100 #[.int .i64 op, .int .u64 v] w fun e w' => (∃ b, e = .returned (.tuple #[.int .u64 (F.one v), b])) ∧ Still w w'
  two : F.n = 2 → ∀ (w : World) (a b : Int), (0 ≤ a ∧ a < 18446744073709551616) ∧ (0 ≤ b ∧ b < 18446744073709551616) → Calls Tryz.prog 101 #[.int .i64 op, .int .u64 a, .int .u64 b] w fun e w' => e = .returned (.tuple #[.int .u64 (F.two a b).1, .int .i64 (F.two a b).2]) ∧ Still w w'
def numbersC (F : NumFn) (C : Cf) : Cf := if F.n = 0 then endsC 17 else match popsC C F.n with
  | none => endsC 17
  | some (l, C1) => if F.n = 1 then pushI C1 (F.one (l.headD 0)) else if (F.two (l.headD 0) (l.getD 1 0)).2 = 0 then pushI C1 (F.two (l.headD 0) (l.getD 1 0)).1 else endsC (F.two (l.headD 0) (l.getD 1 0)).2
theorem pop2_cell {w' : World} {S' : Nat → Prop} {B : Option Addr} {n c : Nat} {a b : Int} (h : RdL w' S' 1 (num1 .u64) (.slice B n c) [a, b]) : n = 2 ∧ ∃ vb vo, B = some ⟨vb, vo, none⟩ ∧ w'.cell? ⟨vb, vo, none⟩ = some (.int .u64 a) ∧ w'.cell? ⟨vb, vo + 1, none⟩ = some (.int .u64 b) := by
  obtain ⟨vb, vo, v1, rfl, _, hv1, c1⟩ := h.get1 0 a rfl
  have hv1 : [v1] = [.int .u64 a] := hv1
  obtain rfl : v1 = .int .u64 a := by simpa using hv1
  obtain ⟨vb2, vo2, v2, e2, _, hv2, c2⟩ := h.get1 1 b rfl
  have hv2 : [v2] = [.int .u64 b] := hv2
  obtain rfl : v2 = .int .u64 b := by simpa using hv2
  simp only [Option.some.injEq, Addr.mk.injEq, and_true] at e2
  obtain ⟨rfl, rfl⟩ := e2
  obtain ⟨A', c', e, _⟩ := h
  cases e
  exact ⟨rfl, vb, vo, rfl, c1, c2⟩
theorem popn {n : Nat} {l : List Int} {C C1 : Cf} (hp : popsC C (n : Int) = some (l, C1)) (hU : U64 C.st) : l.length = n ∧ U64 l ∧ C1.frs = C.frs ∧ C1.st.length ≤ C.st.length := by
  obtain ⟨_, hl1, hl2, hC1⟩ := popsC_some hp
  rw [Int.toNat_natCast] at hl1 hl2 hC1
  refine ⟨by rw [hl2, List.length_drop]; omega, fun x hx => hU x (List.mem_of_mem_drop (hl2 ▸ hx)), by rw [hC1], by rw [hC1]; simp only [List.length_take]; omega⟩
set_option maxRecDepth 100000 in
set_option maxHeartbeats 1000000 in
theorem numbers_c (h : Md w S L u P M s) (hb : s.c.st.length ≤ 900000000) (hU : U64 s.c.st) (x : Ins) (xl : Value) (F : NumFn) (hF : NumOk x.op F) :
    Calls Tryz.prog 48 #[.pointer (some ⟨P.mB, 0, none⟩), insV x xl] w fun e w' => e = .returned (.tuple #[]) ∧ To w S L u P M w' { s with c := numbersC F s.c } := by
  unfold insV
  generalize hC : numbersC F s.c = CR
  have HC := Lib.hid hC
  have HI := Lib.hid hF.is
  have HFF := Lib.hid hF
  have HE := Lib.hid (fun (w' : World) (q : Still w w') => stuck_yes (h.still q))
  have HP := Lib.hid (fun (w' : World) (q : Still w w') => pops_c (h.holds q) F.n (by have := hF.n; omega) (by omega) _ rfl)
  have HR := Lib.hid (fun (w' : World) (q : Still w w') => (q.ro h.sep.lt))
  have HH := Lib.hid (And.intro hb hU)
  have hFn := hF.n
  clear h hF hb hU hC
  go_enter Tryz.func48, Tryz.ntmps48
  go_wp2_with fail
  refine (HI.out _).mono ?_
  rintro e w1 ⟨rfl, hq⟩
  have q1 : Still w w1 := ((Still.refl w).alloc _).trans hq
  have x0 : w1.cell? ⟨w.heap.size, 0, none⟩ = some (.int .i64 x.op) := hq.cell (by simp)
  have hge : w.heap.size < w1.heap.size := World.block_lt_of_cell? w1 _ x0
  have Q := Lib.hid q1
  clear q1 hq HI
  by_cases h0 : F.n = 0
  · have hC := HC.out
    obtain rfl : endsC 17 = CR := by rw [← hC]; unfold numbersC; rw [if_pos h0]
    clear hC HC HP
    rw [h0]
    go_wp2_with fail
    refine (HE.out _ Q.out).mono ?_
    rintro e w2 ⟨rfl, ht⟩
    have HT := Lib.hid (To.trans (Keep.refl _ _) (HR.out _ Q.out) (fun _ h => h) ht)
    clear ht
    go_wp2
    exact bodyPost_ret (v := .tuple #[]) (by simp [results, Tryz.results48, go_sem]) rfl ⟨rfl, HT.out⟩
  have d0 : (F.n == 0) = false := beq_eq_false_iff_ne.2 h0
  cases hp : popsC s.c F.n with
  | none =>
    rw [hp] at HP
    have hC := HC.out
    obtain rfl : endsC 17 = CR := by rw [← hC]; unfold numbersC; rw [if_neg h0, hp]
    clear hC HC hp h0
    go_wp2_with (go_at_call 39; (with_reducible refine (stuck_no _ _).mono ?_); rintro e w2 ⟨rfl, rfl⟩)
    refine (HP.out _ Q.out).mono ?_
    rintro e w2 ⟨rfl, ht⟩
    have HT := Lib.hid (To.trans (Keep.refl _ _) (HR.out _ Q.out) (fun _ h => .inl h) ht)
    clear ht
    go_wp2
    go_end0
    exact ⟨rfl, HT.out⟩
  | some p =>
    obtain ⟨l, C1⟩ := p
    rw [hp] at HP
    have HPP := Lib.hid hp
    have H0 := Lib.hid h0
    clear hp h0
    rcases (show F.n = 1 ∨ F.n = 2 by have := H0.out; omega) with h1 | h1
    · have hp := HPP.out
      rw [h1] at hp
      obtain ⟨hl, hlU, hfrs, hst⟩ := popn (n := 1) hp HH.out.2
      obtain ⟨v, rfl⟩ : ∃ v, l = [v] := by
        match l, hl with
        | [v], _ => exact ⟨v, rfl⟩
      have hC := HC.out
      obtain rfl : pushI C1 (F.one v) = CR := by rw [← hC]; unfold numbersC; rw [if_neg H0.out, HPP.out]; simp only; rw [if_pos h1]; rfl
      have HO := Lib.hid (fun w' => HFF.out.one h1 w' v (hlU v (List.mem_singleton.2 rfl)))
      have HST := Lib.hid (Nat.le_trans hst HH.out.1)
      have d1 : (F.n == 1) = true := by rw [h1]; rfl
      clear hC HC hp hl hlU hfrs hst h1 hFn HPP
      go_wp2_with (go_at_call 39; (with_reducible refine (stuck_no _ _).mono ?_); rintro e w2 ⟨rfl, rfl⟩)
      refine (HP.out _ Q.out).mono ?_
      rintro e w2 ⟨B, n4, c4', rfl, S2, L2, h2, k2, ro2, hS2, rd2, sf2⟩
      obtain ⟨rfl, vb, vo, rfl, vc⟩ := pop1_cell rd2
      replace x0 : w2.cell? ⟨w.heap.size, 0, none⟩ = some (.int .i64 x.op) := (World.cell?_of_block (a := ⟨w.heap.size, 0, none⟩) (ro2.2 w.heap.size (.inr ⟨Nat.le_refl _, hge⟩))).trans x0
      have ROK := Lib.hid (And.intro k2 (And.intro ((HR.out _ Q.out).trans ro2 (fun _ h => .inl h)) (fun b (hb : S b) => hS2 b (.inl hb))))
      have HPU := Lib.hid (fun (w' : World) (q : Still w2 w') => push1_c (h2.still q) (F.one v) (by have := HST.out; show C1.st.length ≤ _; omega))
      have HR2 := Lib.hid (fun (w' : World) (q : Still w2 w') => (q.ro h2.sep.lt))
      clear h2 k2 ro2 hS2 rd2 sf2 HP Q hge HE HR
      generalize w.heap.size = xB at *
      go_wp2_with fail
      refine wp_region_z (fun w' => w'.cell? ⟨xB, 0, none⟩ = some (.int .i64 x.op) ∧ w'.cell? ⟨vb, vo, none⟩ = some (.int .u64 v)) (fun j => j == 5 || j == 6 || j == 7 || j == 8 || j == 9 || j == 10) (by kernel_rfl) ?_ (fun hHeld => ?_)
      · exact ⟨x0, vc⟩
      (refine wpZ_take (i := 0) (oi := ⟨some 51, .fieldAddr 29 (.tmp 3) 0, 0, _, _, none⟩) (v := ?_) rfl (by kernel_rfl) (fun _ _ _ h => h) (by assumption) (Or.inl ⟨by rfl, ?_⟩) ?_; rotate_left 1; · ((intro w hSw; (try dsimp only at hSw); go_split_ands; go_simp) <;> (try with_reducible rfl)))
      try simp only [Act.put, List.setIfInBounds_toArray, List.set_cons_zero, List.set_cons_succ]
      (refine wpZ_take (i := 1) (oi := ⟨some 52, .load 3 (.tmp 51), 3, _, _, none⟩) (v := ?_) rfl (by kernel_rfl) (fun _ _ _ h => h) (by assumption) (Or.inl ⟨by rfl, ?_⟩) ?_; rotate_left 1; · ((intro w hSw; (try dsimp only at hSw); go_split_ands; go_simp) <;> (try with_reducible rfl)))
      try simp only [Act.put, List.setIfInBounds_toArray, List.set_cons_zero, List.set_cons_succ]
      (refine wpZ_take (i := 2) (oi := ⟨some 53, .move (.tmp 5), 57, _, _, none⟩) (v := ?_) rfl (by kernel_rfl) (fun _ _ _ h => h) (by assumption) (Or.inl ⟨by rfl, ?_⟩) ?_; rotate_left 1; · ((intro w hSw; (try dsimp only at hSw); go_split_ands; go_simp) <;> (try with_reducible rfl)))
      try simp only [Act.put, List.setIfInBounds_toArray, List.set_cons_zero, List.set_cons_succ]
      (refine wpZ_take (i := 3) (oi := ⟨some 54, .indexAddr 57 (.tmp 53) (.const (.int .i64 0)), 0, _, _, none⟩) (v := ?_) rfl (by kernel_rfl) (fun _ _ _ h => h) (by assumption) (Or.inl ⟨by rfl, ?_⟩) ?_; rotate_left 1; · ((intro w hSw; (try dsimp only at hSw); go_split_ands; go_simp) <;> (try with_reducible rfl)))
      try simp only [Act.put, List.setIfInBounds_toArray, List.set_cons_zero, List.set_cons_succ]
      (refine wpZ_take (i := 4) (oi := ⟨some 55, .load 26 (.tmp 54), 26, _, _, none⟩) (v := ?_) rfl (by kernel_rfl) (fun _ _ _ h => h) (by assumption) (Or.inl ⟨by rfl, ?_⟩) ?_; rotate_left 1; · ((intro w hSw; (try dsimp only at hSw); go_split_ands; go_simp) <;> (try with_reducible rfl)))
      try simp only [Act.put, List.setIfInBounds_toArray, List.set_cons_zero, List.set_cons_succ]
      refine wpZ_one (i := 5) (oi := ⟨some 56, .call { callee := .value (.func 100), args := #[.tmp 52, .tmp 55], argTypes := #[3, 26] }, 172, _, _, none⟩) rfl (by kernel_rfl) (fun K hK => ?_)
      go_simp; refine (HO.out _).mono ?_; rintro e w3 ⟨⟨bb, rfl⟩, hq3⟩; have Q3 := Lib.hid ((Still.refl w2).drew.trans hq3); clear hq3; go_wp2_with fail
      refine hK.out _ _ (fun h => by simp at h) (fun _ => ?_)
      clear hK K
      try simp only [Act.put, List.setIfInBounds_toArray, List.set_cons_zero, List.set_cons_succ]
      refine wpZ_one (i := 6) (oi := ⟨some 50, .move (.tmp 56), 172, _, _, none⟩) rfl (by kernel_rfl) (fun K hK => ?_)
      go_simp
      refine hK.out _ _ (fun h => by simp at h) (fun _ => ?_)
      clear hK K
      try simp only [Act.put, List.setIfInBounds_toArray, List.set_cons_zero, List.set_cons_succ]
      refine wpZ_two (i := 7) (j := 8) (oi := ⟨some 57, .extract (.tmp 50) 0, 26, _, _, none⟩) (oj := ⟨some 58, .extract (.tmp 50) 1, 4, _, _, none⟩) rfl rfl (by kernel_rfl) (fun K hK => ?_) (fun K hK => ?_)
      ·
        go_simp
        refine hK.out _ _ (fun h => by simp at h) (fun _ => ?_)
        clear hK K
        try simp only [Act.put, List.setIfInBounds_toArray, List.set_cons_zero, List.set_cons_succ]
        refine wpZ_two (i := 8) (j := 9) (oi := ⟨some 58, .extract (.tmp 50) 1, 4, _, _, none⟩) (oj := ⟨some 7, .assign (.tmp 57), 26, _, _, none⟩) rfl rfl (by kernel_rfl) (fun K hK => ?_) (fun K hK => ?_)
        ·
          go_simp
          refine hK.out _ _ (fun h => by simp at h) (fun _ => ?_)
          clear hK K
          try simp only [Act.put, List.setIfInBounds_toArray, List.set_cons_zero, List.set_cons_succ]
          refine wpZ_one (i := 9) (oi := ⟨some 7, .assign (.tmp 57), 26, _, _, none⟩) rfl (by kernel_rfl) (fun K hK => ?_)
          go_simp
          refine hK.out _ _ (fun h => by simp at h) (fun _ => ?_)
          clear hK K
          try simp only [Act.put, List.setIfInBounds_toArray, List.set_cons_zero, List.set_cons_succ]
          refine wpZ_one (i := 10) (oi := ⟨some 8, .assign (.tmp 58), 4, _, _, none⟩) rfl (by kernel_rfl) (fun K hK => ?_)
          go_simp
          refine hK.out _ _ (fun h => by simp at h) (fun _ => ?_)
          clear hK K
          try simp only [Act.put, List.setIfInBounds_toArray, List.set_cons_zero, List.set_cons_succ]
          refine wpZ_done (by kernel_rfl) ?_ _
          go_wp2_with fail; refine (HPU.out _ Q3.out).mono ?_; rintro e w4 ⟨rfl, ht⟩; have HT := Lib.hid (To.trans ROK.out.1 (ROK.out.2.1.trans (HR2.out _ Q3.out) ROK.out.2.2) ROK.out.2.2 ht); clear ht; go_wp2; go_end0; exact ⟨rfl, HT.out⟩
        ·
          go_simp
          refine hK.out _ _ (fun h => by simp at h) (fun _ => ?_)
          clear hK K
          try simp only [Act.put, List.setIfInBounds_toArray, List.set_cons_zero, List.set_cons_succ]
          refine wpZ_one (i := 8) (oi := ⟨some 58, .extract (.tmp 50) 1, 4, _, _, none⟩) rfl (by kernel_rfl) (fun K hK => ?_)
          go_simp
          refine hK.out _ _ (fun h => by simp at h) (fun _ => ?_)
          clear hK K
          try simp only [Act.put, List.setIfInBounds_toArray, List.set_cons_zero, List.set_cons_succ]
          refine wpZ_one (i := 10) (oi := ⟨some 8, .assign (.tmp 58), 4, _, _, none⟩) rfl (by kernel_rfl) (fun K hK => ?_)
          go_simp
          refine hK.out _ _ (fun h => by simp at h) (fun _ => ?_)
          clear hK K
          try simp only [Act.put, List.setIfInBounds_toArray, List.set_cons_zero, List.set_cons_succ]
          refine wpZ_done (by kernel_rfl) ?_ _
          go_wp2_with fail; refine (HPU.out _ Q3.out).mono ?_; rintro e w4 ⟨rfl, ht⟩; have HT := Lib.hid (To.trans ROK.out.1 (ROK.out.2.1.trans (HR2.out _ Q3.out) ROK.out.2.2) ROK.out.2.2 ht); clear ht; go_wp2; go_end0; exact ⟨rfl, HT.out⟩
      ·
        go_simp
        refine hK.out _ _ (fun h => by simp at h) (fun _ => ?_)
        clear hK K
        try simp only [Act.put, List.setIfInBounds_toArray, List.set_cons_zero, List.set_cons_succ]
        refine wpZ_one (i := 7) (oi := ⟨some 57, .extract (.tmp 50) 0, 26, _, _, none⟩) rfl (by kernel_rfl) (fun K hK => ?_)
        go_simp
        refine hK.out _ _ (fun h => by simp at h) (fun _ => ?_)
        clear hK K
        try simp only [Act.put, List.setIfInBounds_toArray, List.set_cons_zero, List.set_cons_succ]
        refine wpZ_one (i := 9) (oi := ⟨some 7, .assign (.tmp 57), 26, _, _, none⟩) rfl (by kernel_rfl) (fun K hK => ?_)
        go_simp
        refine hK.out _ _ (fun h => by simp at h) (fun _ => ?_)
        clear hK K
        try simp only [Act.put, List.setIfInBounds_toArray, List.set_cons_zero, List.set_cons_succ]
        refine wpZ_one (i := 10) (oi := ⟨some 8, .assign (.tmp 58), 4, _, _, none⟩) rfl (by kernel_rfl) (fun K hK => ?_)
        go_simp
        refine hK.out _ _ (fun h => by simp at h) (fun _ => ?_)
        clear hK K
        try simp only [Act.put, List.setIfInBounds_toArray, List.set_cons_zero, List.set_cons_succ]
        refine wpZ_done (by kernel_rfl) ?_ _
        go_wp2_with fail; refine (HPU.out _ Q3.out).mono ?_; rintro e w4 ⟨rfl, ht⟩; have HT := Lib.hid (To.trans ROK.out.1 (ROK.out.2.1.trans (HR2.out _ Q3.out) ROK.out.2.2) ROK.out.2.2 ht); clear ht; go_wp2; go_end0; exact ⟨rfl, HT.out⟩
    · have hp := HPP.out
      rw [h1] at hp
      obtain ⟨hl, hlU, hfrs, hst⟩ := popn (n := 2) hp HH.out.2
      obtain ⟨a, b, rfl⟩ : ∃ a b, l = [a, b] := by
        match l, hl with
        | [a, b], _ => exact ⟨a, b, rfl⟩
      have hC := HC.out
      have hC2 : (if (F.two a b).2 = 0 then pushI C1 (F.two a b).1 else endsC (F.two a b).2) = CR := by
        rw [← hC]
        unfold numbersC
        rw [if_neg H0.out, HPP.out]
        simp only
        rw [if_neg (show ¬ F.n = 1 by omega)]
        rfl
      have HO := Lib.hid (fun w' => HFF.out.two h1 w' a b ⟨hlU a (by simp), hlU b (by simp)⟩)
      have HST := Lib.hid (Nat.le_trans hst HH.out.1)
      have HC2 := Lib.hid hC2
      have d1 : (F.n == 1) = false := beq_eq_false_iff_ne.2 (by omega)
      clear hC HC hp hl hlU hfrs hst h1 hFn HPP hC2
      go_wp2_with (go_at_call 39; (with_reducible refine (stuck_no _ _).mono ?_); rintro e w2 ⟨rfl, rfl⟩)
      refine (HP.out _ Q.out).mono ?_
      rintro e w2 ⟨B, n4, c4', rfl, S2, L2, h2, k2, ro2, hS2, rd2, sf2⟩
      obtain ⟨rfl, vb, vo, rfl, va, vc⟩ := pop2_cell rd2
      replace x0 : w2.cell? ⟨w.heap.size, 0, none⟩ = some (.int .i64 x.op) := (World.cell?_of_block (a := ⟨w.heap.size, 0, none⟩) (ro2.2 w.heap.size (.inr ⟨Nat.le_refl _, hge⟩))).trans x0
      have ROK := Lib.hid (And.intro k2 (And.intro ((HR.out _ Q.out).trans ro2 (fun _ h => .inl h)) (fun b (hb : S b) => hS2 b (.inl hb))))
      have H2 := Lib.hid h2
      have HR2 := Lib.hid (fun (w' : World) (q : Still w2 w') => (q.ro h2.sep.lt))
      clear h2 k2 ro2 hS2 rd2 sf2 HP Q hge HE HR
      generalize w.heap.size = xB at *
      generalize F.two a b = r at *
      obtain ⟨r1, r2⟩ := r
      by_cases hr : r2 = 0
      · subst hr
        have hC := HC2.out
        rw [if_pos rfl] at hC
        subst hC
        clear HC2
        have HPU := Lib.hid (fun (w' : World) (q : Still w2 w') => push1_c (H2.out.still q) r1 (by have := HST.out; show C1.st.length ≤ _; omega))
        go_wp2_with fail
        refine wp_region_z (fun w' => w'.cell? ⟨xB, 0, none⟩ = some (.int .i64 x.op) ∧ w'.cell? ⟨vb, vo, none⟩ = some (.int .u64 a) ∧ w'.cell? ⟨vb, vo + 1, none⟩ = some (.int .u64 b)) (fun j => j == 8 || j == 9 || j == 10 || j == 11 || j == 12 || j == 13) (by kernel_rfl) ?_ (fun hHeld => ?_)
        · exact ⟨x0, va, vc⟩
        (refine wpZ_take (i := 0) (oi := ⟨some 25, .fieldAddr 29 (.tmp 3) 0, 0, _, _, none⟩) (v := ?_) rfl (by kernel_rfl) (fun _ _ _ h => h) (by assumption) (Or.inl ⟨by rfl, ?_⟩) ?_; rotate_left 1; · ((intro w hSw; (try dsimp only at hSw); go_split_ands; go_simp) <;> (try with_reducible rfl)))
        try simp only [Act.put, List.setIfInBounds_toArray, List.set_cons_zero, List.set_cons_succ]
        (refine wpZ_take (i := 1) (oi := ⟨some 26, .load 3 (.tmp 25), 3, _, _, none⟩) (v := ?_) rfl (by kernel_rfl) (fun _ _ _ h => h) (by assumption) (Or.inl ⟨by rfl, ?_⟩) ?_; rotate_left 1; · ((intro w hSw; (try dsimp only at hSw); go_split_ands; go_simp) <;> (try with_reducible rfl)))
        try simp only [Act.put, List.setIfInBounds_toArray, List.set_cons_zero, List.set_cons_succ]
        (refine wpZ_take (i := 2) (oi := ⟨some 27, .move (.tmp 5), 57, _, _, none⟩) (v := ?_) rfl (by kernel_rfl) (fun _ _ _ h => h) (by assumption) (Or.inl ⟨by rfl, ?_⟩) ?_; rotate_left 1; · ((intro w hSw; (try dsimp only at hSw); go_split_ands; go_simp) <;> (try with_reducible rfl)))
        try simp only [Act.put, List.setIfInBounds_toArray, List.set_cons_zero, List.set_cons_succ]
        (refine wpZ_take (i := 3) (oi := ⟨some 28, .indexAddr 57 (.tmp 27) (.const (.int .i64 0)), 0, _, _, none⟩) (v := ?_) rfl (by kernel_rfl) (fun _ _ _ h => h) (by assumption) (Or.inl ⟨by rfl, ?_⟩) ?_; rotate_left 1; · ((intro w hSw; (try dsimp only at hSw); go_split_ands; go_simp) <;> (try with_reducible rfl)))
        try simp only [Act.put, List.setIfInBounds_toArray, List.set_cons_zero, List.set_cons_succ]
        (refine wpZ_take (i := 4) (oi := ⟨some 29, .load 26 (.tmp 28), 26, _, _, none⟩) (v := ?_) rfl (by kernel_rfl) (fun _ _ _ h => h) (by assumption) (Or.inl ⟨by rfl, ?_⟩) ?_; rotate_left 1; · ((intro w hSw; (try dsimp only at hSw); go_split_ands; go_simp) <;> (try with_reducible rfl)))
        try simp only [Act.put, List.setIfInBounds_toArray, List.set_cons_zero, List.set_cons_succ]
        (refine wpZ_take (i := 5) (oi := ⟨some 30, .move (.tmp 5), 57, _, _, none⟩) (v := ?_) rfl (by kernel_rfl) (fun _ _ _ h => h) (by assumption) (Or.inl ⟨by rfl, ?_⟩) ?_; rotate_left 1; · ((intro w hSw; (try dsimp only at hSw); go_split_ands; go_simp) <;> (try with_reducible rfl)))
        try simp only [Act.put, List.setIfInBounds_toArray, List.set_cons_zero, List.set_cons_succ]
        (refine wpZ_take (i := 6) (oi := ⟨some 31, .indexAddr 57 (.tmp 30) (.const (.int .i64 1)), 0, _, _, none⟩) (v := ?_) rfl (by kernel_rfl) (fun _ _ _ h => h) (by assumption) (Or.inl ⟨by rfl, ?_⟩) ?_; rotate_left 1; · ((intro w hSw; (try dsimp only at hSw); go_split_ands; go_simp) <;> (try with_reducible rfl)))
        try simp only [Act.put, List.setIfInBounds_toArray, List.set_cons_zero, List.set_cons_succ]
        (refine wpZ_take (i := 7) (oi := ⟨some 32, .load 26 (.tmp 31), 26, _, _, none⟩) (v := ?_) rfl (by kernel_rfl) (fun _ _ _ h => h) (by assumption) (Or.inl ⟨by rfl, ?_⟩) ?_; rotate_left 1; · ((intro w hSw; (try dsimp only at hSw); go_split_ands; go_simp) <;> (try with_reducible rfl)))
        try simp only [Act.put, List.setIfInBounds_toArray, List.set_cons_zero, List.set_cons_succ]
        refine wpZ_one (i := 8) (oi := ⟨some 33, .call { callee := .value (.func 101), args := #[.tmp 26, .tmp 29, .tmp 32], argTypes := #[3, 26, 26] }, 160, _, _, none⟩) rfl (by kernel_rfl) (fun K hK => ?_)
        go_simp; refine (HO.out _).mono ?_; rintro e w3 ⟨rfl, hq3⟩; have Q3 := Lib.hid ((Still.refl w2).drew.trans hq3); clear hq3; go_wp2_with fail
        refine hK.out _ _ (fun h => by simp at h) (fun _ => ?_)
        clear hK K
        try simp only [Act.put, List.setIfInBounds_toArray, List.set_cons_zero, List.set_cons_succ]
        refine wpZ_one (i := 9) (oi := ⟨some 24, .move (.tmp 33), 160, _, _, none⟩) rfl (by kernel_rfl) (fun K hK => ?_)
        go_simp
        refine hK.out _ _ (fun h => by simp at h) (fun _ => ?_)
        clear hK K
        try simp only [Act.put, List.setIfInBounds_toArray, List.set_cons_zero, List.set_cons_succ]
        refine wpZ_two (i := 10) (j := 11) (oi := ⟨some 34, .extract (.tmp 24) 0, 26, _, _, none⟩) (oj := ⟨some 35, .extract (.tmp 24) 1, 32, _, _, none⟩) rfl rfl (by kernel_rfl) (fun K hK => ?_) (fun K hK => ?_)
        ·
          go_simp
          refine hK.out _ _ (fun h => by simp at h) (fun _ => ?_)
          clear hK K
          try simp only [Act.put, List.setIfInBounds_toArray, List.set_cons_zero, List.set_cons_succ]
          refine wpZ_two (i := 11) (j := 12) (oi := ⟨some 35, .extract (.tmp 24) 1, 32, _, _, none⟩) (oj := ⟨some 9, .assign (.tmp 34), 26, _, _, none⟩) rfl rfl (by kernel_rfl) (fun K hK => ?_) (fun K hK => ?_)
          ·
            go_simp
            refine hK.out _ _ (fun h => by simp at h) (fun _ => ?_)
            clear hK K
            try simp only [Act.put, List.setIfInBounds_toArray, List.set_cons_zero, List.set_cons_succ]
            refine wpZ_one (i := 12) (oi := ⟨some 9, .assign (.tmp 34), 26, _, _, none⟩) rfl (by kernel_rfl) (fun K hK => ?_)
            go_simp
            refine hK.out _ _ (fun h => by simp at h) (fun _ => ?_)
            clear hK K
            try simp only [Act.put, List.setIfInBounds_toArray, List.set_cons_zero, List.set_cons_succ]
            refine wpZ_one (i := 13) (oi := ⟨some 10, .assign (.tmp 35), 32, _, _, none⟩) rfl (by kernel_rfl) (fun K hK => ?_)
            go_simp
            refine hK.out _ _ (fun h => by simp at h) (fun _ => ?_)
            clear hK K
            try simp only [Act.put, List.setIfInBounds_toArray, List.set_cons_zero, List.set_cons_succ]
            refine wpZ_done (by kernel_rfl) ?_ _
            go_wp2_with fail; refine (traps_no _ _).mono ?_; rintro e w4 ⟨rfl, hq4⟩; have Q4 := Lib.hid (Q3.out.trans hq4); clear hq4; go_wp2_with fail; refine (HPU.out _ Q4.out).mono ?_; rintro e w5 ⟨rfl, ht⟩; have HT := Lib.hid (To.trans ROK.out.1 (ROK.out.2.1.trans (HR2.out _ Q4.out) ROK.out.2.2) ROK.out.2.2 ht); clear ht; go_wp2; go_end0; exact ⟨rfl, HT.out⟩
          ·
            go_simp
            refine hK.out _ _ (fun h => by simp at h) (fun _ => ?_)
            clear hK K
            try simp only [Act.put, List.setIfInBounds_toArray, List.set_cons_zero, List.set_cons_succ]
            refine wpZ_one (i := 11) (oi := ⟨some 35, .extract (.tmp 24) 1, 32, _, _, none⟩) rfl (by kernel_rfl) (fun K hK => ?_)
            go_simp
            refine hK.out _ _ (fun h => by simp at h) (fun _ => ?_)
            clear hK K
            try simp only [Act.put, List.setIfInBounds_toArray, List.set_cons_zero, List.set_cons_succ]
            refine wpZ_one (i := 13) (oi := ⟨some 10, .assign (.tmp 35), 32, _, _, none⟩) rfl (by kernel_rfl) (fun K hK => ?_)
            go_simp
            refine hK.out _ _ (fun h => by simp at h) (fun _ => ?_)
            clear hK K
            try simp only [Act.put, List.setIfInBounds_toArray, List.set_cons_zero, List.set_cons_succ]
            refine wpZ_done (by kernel_rfl) ?_ _
            go_wp2_with fail; refine (traps_no _ _).mono ?_; rintro e w4 ⟨rfl, hq4⟩; have Q4 := Lib.hid (Q3.out.trans hq4); clear hq4; go_wp2_with fail; refine (HPU.out _ Q4.out).mono ?_; rintro e w5 ⟨rfl, ht⟩; have HT := Lib.hid (To.trans ROK.out.1 (ROK.out.2.1.trans (HR2.out _ Q4.out) ROK.out.2.2) ROK.out.2.2 ht); clear ht; go_wp2; go_end0; exact ⟨rfl, HT.out⟩
        ·
          go_simp
          refine hK.out _ _ (fun h => by simp at h) (fun _ => ?_)
          clear hK K
          try simp only [Act.put, List.setIfInBounds_toArray, List.set_cons_zero, List.set_cons_succ]
          refine wpZ_one (i := 10) (oi := ⟨some 34, .extract (.tmp 24) 0, 26, _, _, none⟩) rfl (by kernel_rfl) (fun K hK => ?_)
          go_simp
          refine hK.out _ _ (fun h => by simp at h) (fun _ => ?_)
          clear hK K
          try simp only [Act.put, List.setIfInBounds_toArray, List.set_cons_zero, List.set_cons_succ]
          refine wpZ_one (i := 12) (oi := ⟨some 9, .assign (.tmp 34), 26, _, _, none⟩) rfl (by kernel_rfl) (fun K hK => ?_)
          go_simp
          refine hK.out _ _ (fun h => by simp at h) (fun _ => ?_)
          clear hK K
          try simp only [Act.put, List.setIfInBounds_toArray, List.set_cons_zero, List.set_cons_succ]
          refine wpZ_one (i := 13) (oi := ⟨some 10, .assign (.tmp 35), 32, _, _, none⟩) rfl (by kernel_rfl) (fun K hK => ?_)
          go_simp
          refine hK.out _ _ (fun h => by simp at h) (fun _ => ?_)
          clear hK K
          try simp only [Act.put, List.setIfInBounds_toArray, List.set_cons_zero, List.set_cons_succ]
          refine wpZ_done (by kernel_rfl) ?_ _
          go_wp2_with fail; refine (traps_no _ _).mono ?_; rintro e w4 ⟨rfl, hq4⟩; have Q4 := Lib.hid (Q3.out.trans hq4); clear hq4; go_wp2_with fail; refine (HPU.out _ Q4.out).mono ?_; rintro e w5 ⟨rfl, ht⟩; have HT := Lib.hid (To.trans ROK.out.1 (ROK.out.2.1.trans (HR2.out _ Q4.out) ROK.out.2.2) ROK.out.2.2 ht); clear ht; go_wp2; go_end0; exact ⟨rfl, HT.out⟩
      · have hC := HC2.out
        rw [if_neg hr] at hC
        subst hC
        have HTR := Lib.hid (fun (w' : World) (q : Still w2 w') => traps_yes (H2.out.still q) r2 hr)
        clear HC2 hr
        go_wp2_with fail
        refine wp_region_z (fun w' => w'.cell? ⟨xB, 0, none⟩ = some (.int .i64 x.op) ∧ w'.cell? ⟨vb, vo, none⟩ = some (.int .u64 a) ∧ w'.cell? ⟨vb, vo + 1, none⟩ = some (.int .u64 b)) (fun j => j == 8 || j == 9 || j == 10 || j == 11 || j == 12 || j == 13) (by kernel_rfl) ?_ (fun hHeld => ?_)
        · exact ⟨x0, va, vc⟩
        (refine wpZ_take (i := 0) (oi := ⟨some 25, .fieldAddr 29 (.tmp 3) 0, 0, _, _, none⟩) (v := ?_) rfl (by kernel_rfl) (fun _ _ _ h => h) (by assumption) (Or.inl ⟨by rfl, ?_⟩) ?_; rotate_left 1; · ((intro w hSw; (try dsimp only at hSw); go_split_ands; go_simp) <;> (try with_reducible rfl)))
        try simp only [Act.put, List.setIfInBounds_toArray, List.set_cons_zero, List.set_cons_succ]
        (refine wpZ_take (i := 1) (oi := ⟨some 26, .load 3 (.tmp 25), 3, _, _, none⟩) (v := ?_) rfl (by kernel_rfl) (fun _ _ _ h => h) (by assumption) (Or.inl ⟨by rfl, ?_⟩) ?_; rotate_left 1; · ((intro w hSw; (try dsimp only at hSw); go_split_ands; go_simp) <;> (try with_reducible rfl)))
        try simp only [Act.put, List.setIfInBounds_toArray, List.set_cons_zero, List.set_cons_succ]
        (refine wpZ_take (i := 2) (oi := ⟨some 27, .move (.tmp 5), 57, _, _, none⟩) (v := ?_) rfl (by kernel_rfl) (fun _ _ _ h => h) (by assumption) (Or.inl ⟨by rfl, ?_⟩) ?_; rotate_left 1; · ((intro w hSw; (try dsimp only at hSw); go_split_ands; go_simp) <;> (try with_reducible rfl)))
        try simp only [Act.put, List.setIfInBounds_toArray, List.set_cons_zero, List.set_cons_succ]
        (refine wpZ_take (i := 3) (oi := ⟨some 28, .indexAddr 57 (.tmp 27) (.const (.int .i64 0)), 0, _, _, none⟩) (v := ?_) rfl (by kernel_rfl) (fun _ _ _ h => h) (by assumption) (Or.inl ⟨by rfl, ?_⟩) ?_; rotate_left 1; · ((intro w hSw; (try dsimp only at hSw); go_split_ands; go_simp) <;> (try with_reducible rfl)))
        try simp only [Act.put, List.setIfInBounds_toArray, List.set_cons_zero, List.set_cons_succ]
        (refine wpZ_take (i := 4) (oi := ⟨some 29, .load 26 (.tmp 28), 26, _, _, none⟩) (v := ?_) rfl (by kernel_rfl) (fun _ _ _ h => h) (by assumption) (Or.inl ⟨by rfl, ?_⟩) ?_; rotate_left 1; · ((intro w hSw; (try dsimp only at hSw); go_split_ands; go_simp) <;> (try with_reducible rfl)))
        try simp only [Act.put, List.setIfInBounds_toArray, List.set_cons_zero, List.set_cons_succ]
        (refine wpZ_take (i := 5) (oi := ⟨some 30, .move (.tmp 5), 57, _, _, none⟩) (v := ?_) rfl (by kernel_rfl) (fun _ _ _ h => h) (by assumption) (Or.inl ⟨by rfl, ?_⟩) ?_; rotate_left 1; · ((intro w hSw; (try dsimp only at hSw); go_split_ands; go_simp) <;> (try with_reducible rfl)))
        try simp only [Act.put, List.setIfInBounds_toArray, List.set_cons_zero, List.set_cons_succ]
        (refine wpZ_take (i := 6) (oi := ⟨some 31, .indexAddr 57 (.tmp 30) (.const (.int .i64 1)), 0, _, _, none⟩) (v := ?_) rfl (by kernel_rfl) (fun _ _ _ h => h) (by assumption) (Or.inl ⟨by rfl, ?_⟩) ?_; rotate_left 1; · ((intro w hSw; (try dsimp only at hSw); go_split_ands; go_simp) <;> (try with_reducible rfl)))
        try simp only [Act.put, List.setIfInBounds_toArray, List.set_cons_zero, List.set_cons_succ]
        (refine wpZ_take (i := 7) (oi := ⟨some 32, .load 26 (.tmp 31), 26, _, _, none⟩) (v := ?_) rfl (by kernel_rfl) (fun _ _ _ h => h) (by assumption) (Or.inl ⟨by rfl, ?_⟩) ?_; rotate_left 1; · ((intro w hSw; (try dsimp only at hSw); go_split_ands; go_simp) <;> (try with_reducible rfl)))
        try simp only [Act.put, List.setIfInBounds_toArray, List.set_cons_zero, List.set_cons_succ]
        refine wpZ_one (i := 8) (oi := ⟨some 33, .call { callee := .value (.func 101), args := #[.tmp 26, .tmp 29, .tmp 32], argTypes := #[3, 26, 26] }, 160, _, _, none⟩) rfl (by kernel_rfl) (fun K hK => ?_)
        go_simp; refine (HO.out _).mono ?_; rintro e w3 ⟨rfl, hq3⟩; have Q3 := Lib.hid ((Still.refl w2).drew.trans hq3); clear hq3; go_wp2_with fail
        refine hK.out _ _ (fun h => by simp at h) (fun _ => ?_)
        clear hK K
        try simp only [Act.put, List.setIfInBounds_toArray, List.set_cons_zero, List.set_cons_succ]
        refine wpZ_one (i := 9) (oi := ⟨some 24, .move (.tmp 33), 160, _, _, none⟩) rfl (by kernel_rfl) (fun K hK => ?_)
        go_simp
        refine hK.out _ _ (fun h => by simp at h) (fun _ => ?_)
        clear hK K
        try simp only [Act.put, List.setIfInBounds_toArray, List.set_cons_zero, List.set_cons_succ]
        refine wpZ_two (i := 10) (j := 11) (oi := ⟨some 34, .extract (.tmp 24) 0, 26, _, _, none⟩) (oj := ⟨some 35, .extract (.tmp 24) 1, 32, _, _, none⟩) rfl rfl (by kernel_rfl) (fun K hK => ?_) (fun K hK => ?_)
        ·
          go_simp
          refine hK.out _ _ (fun h => by simp at h) (fun _ => ?_)
          clear hK K
          try simp only [Act.put, List.setIfInBounds_toArray, List.set_cons_zero, List.set_cons_succ]
          refine wpZ_two (i := 11) (j := 12) (oi := ⟨some 35, .extract (.tmp 24) 1, 32, _, _, none⟩) (oj := ⟨some 9, .assign (.tmp 34), 26, _, _, none⟩) rfl rfl (by kernel_rfl) (fun K hK => ?_) (fun K hK => ?_)
          ·
            go_simp
            refine hK.out _ _ (fun h => by simp at h) (fun _ => ?_)
            clear hK K
            try simp only [Act.put, List.setIfInBounds_toArray, List.set_cons_zero, List.set_cons_succ]
            refine wpZ_one (i := 12) (oi := ⟨some 9, .assign (.tmp 34), 26, _, _, none⟩) rfl (by kernel_rfl) (fun K hK => ?_)
            go_simp
            refine hK.out _ _ (fun h => by simp at h) (fun _ => ?_)
            clear hK K
            try simp only [Act.put, List.setIfInBounds_toArray, List.set_cons_zero, List.set_cons_succ]
            refine wpZ_one (i := 13) (oi := ⟨some 10, .assign (.tmp 35), 32, _, _, none⟩) rfl (by kernel_rfl) (fun K hK => ?_)
            go_simp
            refine hK.out _ _ (fun h => by simp at h) (fun _ => ?_)
            clear hK K
            try simp only [Act.put, List.setIfInBounds_toArray, List.set_cons_zero, List.set_cons_succ]
            refine wpZ_done (by kernel_rfl) ?_ _
            go_wp2_with fail; refine (HTR.out _ Q3.out).mono ?_; rintro e w4 ⟨rfl, ht⟩; have HT := Lib.hid (To.trans ROK.out.1 (ROK.out.2.1.trans (HR2.out _ Q3.out) ROK.out.2.2) ROK.out.2.2 ht); clear ht; go_wp2; go_end0; exact ⟨rfl, HT.out⟩
          ·
            go_simp
            refine hK.out _ _ (fun h => by simp at h) (fun _ => ?_)
            clear hK K
            try simp only [Act.put, List.setIfInBounds_toArray, List.set_cons_zero, List.set_cons_succ]
            refine wpZ_one (i := 11) (oi := ⟨some 35, .extract (.tmp 24) 1, 32, _, _, none⟩) rfl (by kernel_rfl) (fun K hK => ?_)
            go_simp
            refine hK.out _ _ (fun h => by simp at h) (fun _ => ?_)
            clear hK K
            try simp only [Act.put, List.setIfInBounds_toArray, List.set_cons_zero, List.set_cons_succ]
            refine wpZ_one (i := 13) (oi := ⟨some 10, .assign (.tmp 35), 32, _, _, none⟩) rfl (by kernel_rfl) (fun K hK => ?_)
            go_simp
            refine hK.out _ _ (fun h => by simp at h) (fun _ => ?_)
            clear hK K
            try simp only [Act.put, List.setIfInBounds_toArray, List.set_cons_zero, List.set_cons_succ]
            refine wpZ_done (by kernel_rfl) ?_ _
            go_wp2_with fail; refine (HTR.out _ Q3.out).mono ?_; rintro e w4 ⟨rfl, ht⟩; have HT := Lib.hid (To.trans ROK.out.1 (ROK.out.2.1.trans (HR2.out _ Q3.out) ROK.out.2.2) ROK.out.2.2 ht); clear ht; go_wp2; go_end0; exact ⟨rfl, HT.out⟩
        ·
          go_simp
          refine hK.out _ _ (fun h => by simp at h) (fun _ => ?_)
          clear hK K
          try simp only [Act.put, List.setIfInBounds_toArray, List.set_cons_zero, List.set_cons_succ]
          refine wpZ_one (i := 10) (oi := ⟨some 34, .extract (.tmp 24) 0, 26, _, _, none⟩) rfl (by kernel_rfl) (fun K hK => ?_)
          go_simp
          refine hK.out _ _ (fun h => by simp at h) (fun _ => ?_)
          clear hK K
          try simp only [Act.put, List.setIfInBounds_toArray, List.set_cons_zero, List.set_cons_succ]
          refine wpZ_one (i := 12) (oi := ⟨some 9, .assign (.tmp 34), 26, _, _, none⟩) rfl (by kernel_rfl) (fun K hK => ?_)
          go_simp
          refine hK.out _ _ (fun h => by simp at h) (fun _ => ?_)
          clear hK K
          try simp only [Act.put, List.setIfInBounds_toArray, List.set_cons_zero, List.set_cons_succ]
          refine wpZ_one (i := 13) (oi := ⟨some 10, .assign (.tmp 35), 32, _, _, none⟩) rfl (by kernel_rfl) (fun K hK => ?_)
          go_simp
          refine hK.out _ _ (fun h => by simp at h) (fun _ => ?_)
          clear hK K
          try simp only [Act.put, List.setIfInBounds_toArray, List.set_cons_zero, List.set_cons_succ]
          refine wpZ_done (by kernel_rfl) ?_ _
          go_wp2_with fail; refine (HTR.out _ Q3.out).mono ?_; rintro e w4 ⟨rfl, ht⟩; have HT := Lib.hid (To.trans ROK.out.1 (ROK.out.2.1.trans (HR2.out _ Q3.out) ROK.out.2.2) ROK.out.2.2 ht); clear ht; go_wp2; go_end0; exact ⟨rfl, HT.out⟩
end Go.Proofs.YtmnebeikafigjaaGreatDoor
/- step's One. -/
set_option linter.unusedVariables false
namespace Go.Proofs.YtmnebeikafigjaaGreatDoor
open Go.RowKit Go.Sep Go.St
variable {w : World} {S : Nat → Prop} {L : Key → Option Ck} {u : Nat} {M : Mo} {s : Ms}
/-- An instance and a config, no machine. -/
structure Sd (w : World) (S : Nat → Prop) (L : Key → Option Ck) (u cB co iB : Nat) (M : Mo) (s : Ms) : Prop where
  sep : Sep w S L
  mach : L .mach = none
  cfg : CfgAt L u cB co s.c
  ins : InsAt w S L u iB M s.i
  jou : s.j = none
  wf : Wf M
def ToD (w : World) (S : Nat → Prop) (L : Key → Option Ck) (u cB co iB : Nat) (M : Mo) (w' : World) (s : Ms) : Prop :=
  ∃ S' L', Sd w' S' L' u cB co iB M s ∧ Keep u L L' ∧ Ro S w w' ∧ ∀ b, S b → S' b
theorem Sd.machine {cB co iB : Nat} (h : Sd w S L u cB co iB M s) : Md (w.alloc (.cells #[.pointer (some ⟨cB, co, none⟩), .pointer (some ⟨iB, 0, none⟩), .pointer none] 105)) S (upd L .mach (.cl w.heap.size 0 [.pointer (some ⟨cB, co, none⟩), .pointer (some ⟨iB, 0, none⟩), .pointer none])) u ⟨w.heap.size, cB, co, iB, .pointer none⟩ M s := by
  have s1 := h.sep.new .mach #[.pointer (some ⟨cB, co, none⟩), .pointer (some ⟨iB, 0, none⟩), .pointer none] 105 h.mach
  have ro : Ro S w (w.alloc (.cells #[.pointer (some ⟨cB, co, none⟩), .pointer (some ⟨iB, 0, none⟩), .pointer none] 105)) := ((Still.refl w).alloc _).ro h.sep.lt
  refine ⟨s1, upd_same _ _ _, ?_, h.ins.mono ro (fun _ h => h) (upd_other _ _ (by simp)) (upd_other _ _ (by simp)) (upd_other _ _ (by simp)) (fun k => upd_other _ _ (by simp)) (upd_other _ _ (by simp)) (upd_other _ _ (by simp)) (upd_other _ _ (by simp)), ?_, h.wf⟩
  · obtain ⟨fv, sv, vv, q1, ⟨raws, q2, q3, q4⟩, q5, q6⟩ := h.cfg
    exact ⟨fv, sv, vv, by rw [upd_other _ _ (by simp)]; exact q1, ⟨raws, q2, by rw [upd_other _ _ (by simp)]; exact q3, fun k f r x y => by rw [upd_other _ _ (by simp), upd_other _ _ (by simp)]; exact q4 k f r x y⟩, by rw [upd_other _ _ (by simp)]; exact q5, by rw [upd_other _ _ (by simp)]; exact q6⟩
  · rw [h.jou]; rfl
/-- The machine goes. -/
theorem To.done {cB co iB : Nat} {w' : World} {s' : Ms} (h : Sd w S L u cB co iB M s) (hj : s'.j = none)
    (ht : To (w.alloc (.cells #[.pointer (some ⟨cB, co, none⟩), .pointer (some ⟨iB, 0, none⟩), .pointer none] 105)) S (upd L .mach (.cl w.heap.size 0 [.pointer (some ⟨cB, co, none⟩), .pointer (some ⟨iB, 0, none⟩), .pointer none])) u ⟨w.heap.size, cB, co, iB, .pointer none⟩ M w' s') : ToD w S L u cB co iB M w' s' := by
  obtain ⟨S', L', a, k, ro, hS⟩ := ht
  refine ⟨S', Go.Sep.del L' .mach, ⟨a.sep.del _, del_same _ _, ?_, a.ins.mono (Ro.refl _ _) (fun _ h => h) (del_other _ (by simp)) (del_other _ (by simp)) (del_other _ (by simp)) (fun k => del_other _ (by simp)) (del_other _ (by simp)) (del_other _ (by simp)) (del_other _ (by simp)), hj, a.wf⟩, fun q hq => ?_, (((Still.refl w).alloc _).ro h.sep.lt).trans' ro, hS⟩
  · obtain ⟨fv, sv, vv, q1, ⟨raws, q2, q3, q4⟩, q5, q6⟩ := a.cfg
    exact ⟨fv, sv, vv, by rw [del_other _ (by simp)]; exact q1, ⟨raws, q2, by rw [del_other _ (by simp)]; exact q3, fun k f r x y => by rw [del_other _ (by simp), del_other _ (by simp)]; exact q4 k f r x y⟩, by rw [del_other _ (by simp)]; exact q5, by rw [del_other _ (by simp)]; exact q6⟩
  · by_cases e : q = .mach
    · subst e
      rw [del_same, h.mach]
    · rw [del_other _ e, k q hq, upd_other _ _ e]
/-- Instructions that are done without tables and memory. -/
structure Plain (op : Int) : Prop where
  ni : op ≠ 17
  np : op ≠ 27 ∧ op ≠ 28 ∧ op ≠ 209
  nt : op ≠ 37 ∧ op ≠ 38 ∧ op ≠ 64524 ∧ op ≠ 64525 ∧ op ≠ 64526 ∧ op ≠ 64527 ∧ op ≠ 64528 ∧ op ≠ 64529
  nb : op ≠ 63 ∧ op ≠ 64 ∧ op ≠ 64520 ∧ op ≠ 64521 ∧ op ≠ 64522 ∧ op ≠ 64523
  nm : op < 40 ∨ 62 < op
theorem places_c {P : Ptrs} (h : Md w S L u P M s) {k fB fc : Nat} {f : Fr} {sv vv lv bv : Value} {raws : List (Value × Value)} (hf : Frm w L u P s k f fB fc sv vv raws lv bv) (pre : Pre M s.i s.c k f) (hb : s.c.st.length ≤ 900000000) (x : Ins) (xl : Value) (hx : Ins.wf x) (hj : P.jp = .pointer none) (hp : Plain x.op) (r : Option (Cf × In)) (hr : placesC s.i s.c f x = r) :
    Calls Tryz.prog 44 #[.pointer (some ⟨P.mB, 0, none⟩), insV x xl] w (PlR w S L u P M s r) := by
  cases r with
  | none => exact places_no h hf pre.k x xl hr hp.np.1 hp.np.2.1
  | some r =>
    obtain ⟨CR, IR⟩ := r
    unfold placesC at hr
    by_cases h26 : x.op = 26
    · rw [if_pos h26] at hr
      obtain ⟨rfl, rfl⟩ := Prod.mk.inj (Option.some.inj hr)
      exact places_drop h hf pre hb x xl hx h26
    rw [if_neg h26] at hr
    by_cases h32 : x.op = 32
    · rw [if_pos h32] at hr
      obtain ⟨rfl, rfl⟩ := Prod.mk.inj (Option.some.inj hr)
      exact places_get h hf pre hb x xl hx h32
    rw [if_neg h32] at hr
    by_cases h33 : x.op = 33 ∨ x.op = 34
    · rw [if_pos h33] at hr
      obtain ⟨hr1, rfl⟩ := Prod.mk.inj (Option.some.inj hr)
      rcases h33 with h33 | h33
      · exact places_set h hf pre hb x xl hx CR hr1.symm h33
      · exact places_tee h hf pre hb x xl hx CR hr1.symm h33
    rw [if_neg h33] at hr
    by_cases h35 : x.op = 35
    · rw [if_pos h35] at hr
      obtain ⟨rfl, rfl⟩ := Prod.mk.inj (Option.some.inj hr)
      exact places_gget h hf pre hb x xl hx h35
    rw [if_neg h35] at hr
    by_cases h36 : x.op = 36
    · rw [if_pos h36] at hr
      exact places_gset h hf pre hb x xl hx hj CR IR (Option.some.inj hr).symm h36
    rw [if_neg h36] at hr
    by_cases h65 : x.op = 65 ∨ x.op = 66
    · rw [if_pos h65] at hr
      obtain ⟨rfl, rfl⟩ := Prod.mk.inj (Option.some.inj hr)
      rcases h65 with h65 | h65
      · exact places_n65 h hf pre hb x xl hx h65
      · exact places_n66 h hf pre hb x xl hx h65
    rw [if_neg h65] at hr
    by_cases h208 : x.op = 208
    · rw [if_pos h208] at hr
      obtain ⟨rfl, rfl⟩ := Prod.mk.inj (Option.some.inj hr)
      exact places_n208 h hf pre hb x xl hx h208
    rw [if_neg h208, if_neg hp.np.2.2] at hr
    by_cases h210 : x.op = 210
    · rw [if_pos h210] at hr
      obtain ⟨rfl, rfl⟩ := Prod.mk.inj (Option.some.inj hr)
      exact places_n210 h hf pre hb x xl hx h210
    rw [if_neg h210] at hr
    cases hr
def doC (M : Mo) (I : In) (C : Cf) (f : Fr) (x : Ins) (at_ : Int) (F : NumFn) : Cf × In := match controlC M I C f x at_ with
  | some C1 => (C1, I)
  | none => match placesC I C f x with
    | some r => r
    | none => (numbersC F C, I)
def oneC (M : Mo) (I : In) (C : Cf) (f : Fr) (x : Ins) (F : NumFn) : Cf × In :=
  let r := doC M I (setTop C { f with at_ := f.at_ + 1 }) { f with at_ := f.at_ + 1 } x f.at_ F
  if !r.1.ov && decide (1024 < r.1.st.length) then (endsC 8, r.2) else r
set_option maxRecDepth 100000 in
set_option maxHeartbeats 2000000 in
theorem one_c {cB co iB : Nat} (h : Sd w S L u cB co iB M s) (hov : s.c.ov = false) (k : Nat) (f : Fr) (pre : Pre M s.i s.c k f) (htop : s.c.frs[k]? = some f) (hb : s.c.st.length ≤ 900000000)
    (cd : Cd) (hcd : M.codes[f.fn.toNat]? = some cd) (t : Ft) (hfn : functionM M s.i.blocks.length f.fn = some t) (a : Nat) (ha : f.at_ = a) (x : Ins) (hx : cd.body[a]? = some x) (hp : Plain x.op) (F : NumFn) (hF : NumOk x.op F) :
    Calls Tryz.prog 14 #[.pointer (some ⟨iB, 0, none⟩), .pointer (some ⟨cB, co, none⟩), .pointer none] w fun e w' => e = .returned (.tuple #[]) ∧ ToD w S L u cB co iB M w' { s with c := (oneC M s.i s.c f x F).1, i := (oneC M s.i s.c f x F).2 } := by
  have hM := h.machine
  obtain ⟨fB, fc, sv, vv, raws, lv, bv, hf⟩ := hM.frm k f pre.len htop
  have HD := Lib.hid (fun w' s' (hj : s'.j = none) => To.done (w' := w') (s' := s') h hj)
  have HJ := Lib.hid h.jou
  have HPO := Lib.hid hp
  clear hp
  obtain ⟨fv0, sv0, vv0, hC0, _⟩ := h.cfg
  have o2 := h.sep.cell hC0 2 _ rfl
  rw [hov] at o2
  have HC := Lib.hid hC0
  generalize hr : oneC M s.i s.c f x F = R
  have HRR := Lib.hid hr
  clear hr h hC0
  have c0 := hf.c0
  simp only at c0
  have dl : (((k + 1 : Nat) : Int) == 0) = false := beq_eq_false_iff_ne.2 (by omega)
  have HAT := Lib.hid (show 0 ≤ (a : Int) ∧ (a : Int) ≤ 9223372036854775807 from ⟨by omega, by have h1 := (List.getElem?_eq_some_iff.1 hx).1; have h2 := (hM.wf.body cd (List.mem_of_getElem? hcd)).1; omega⟩)
  have HH := Lib.hid (And.intro hM (And.intro hf (And.intro pre (And.intro hb (And.intro hcd (And.intro hfn (And.intro ha (And.intro hx hF))))))))
  clear hM hf pre hb hcd hfn ha hx hF htop
  generalize hN : k + 1 = N at c0 dl
  have HN := Lib.hid hN
  clear hN
  go_enter Tryz.func14, Tryz.ntmps14
  go_wp2_with fail
  generalize hL1 : (upd L .mach (.cl w.heap.size 0 [.pointer (some ⟨cB, co, none⟩), .pointer (some ⟨iB, 0, none⟩), .pointer none])) = L1 at *
  have HW01 := Lib.hid (Ro.refl S (w.alloc (.cells #[.pointer (some ⟨cB, co, none⟩), .pointer (some ⟨iB, 0, none⟩), .pointer none] 105)))
  generalize hW0 : w.alloc (.cells #[.pointer (some ⟨cB, co, none⟩), .pointer (some ⟨iB, 0, none⟩), .pointer none] 105) = W0 at *
  generalize w.heap.size = mB at *
  clear hL1
  refine (stuck_same _ _).mono ?_
  rintro e w1 ⟨rfl, he1⟩
  subst he1
  have HFR := Lib.hid (frame_c HH.out.1 HH.out.2.1 HH.out.2.2.1.k)
  have f0 := HH.out.2.1.cell 0 _ rfl
  have f1 := HH.out.2.1.cell 1 _ rfl
  rw [HH.out.2.2.2.2.2.2.1] at f1
  clear o2 c0 hW0
  go_wp2_with fail
  refine HFR.out.mono ?_
  rintro e w2 ⟨rfl, n1, rfl⟩
  have Q1 := Lib.hid ((Still.refl w1).drewN n1)
  replace f0 := Q1.out.cell f0
  replace f1 := Q1.out.cell f1
  rw [Nat.add_zero] at f0
  obtain ⟨n, hn⟩ := Int.eq_ofNat_of_zero_le HH.out.2.2.1.ok.fn.1
  have hn2 : n < 4294967296 := by have := HH.out.2.2.1.ok.fn.2; omega
  rw [hn] at f0
  have hu : IntKind.u32.wrap (n : Int) = (n : Int) := by simp [IntKind.wrap, IntKind.bits, IntKind.signed]; omega
  have dn : decide ((n : Int) < 0) = false := decide_eq_false (by omega)
  have hfn := HH.out.2.2.2.2.2.1
  rw [hn] at hfn
  have HFN := Lib.hid (function_yes (HH.out.1.still Q1.out) n hn2 t hfn)
  have HNN := Lib.hid (And.intro hn hn2)
  have b0 := World.block_lt_of_cell? _ _ f0
  clear hfn hn hn2
  generalize w1.drewN n1 = w2 at *
  go_wp2_with fail
  refine HFN.out.mono ?_
  rintro e w3 ⟨pA, pc, rA, rc, rfl, _, hq3⟩
  have Q3 := Lib.hid (Q1.out.trans (hq3.alloc (.cells #[.slice pA t.ps.length pc, .slice rA t.rs.length rc] 36)))
  have q3 : Still w2 (w3.alloc (.cells #[.slice pA t.ps.length pc, .slice rA t.rs.length rc] 36)) := hq3.alloc _
  replace f0 := q3.cell f0
  replace f1 := q3.cell f1
  have hge : mB < (w3.alloc (.cells #[.slice pA t.ps.length pc, .slice rA t.rs.length rc] 36)).heap.size := Nat.lt_of_lt_of_le (World.block_lt_of_cell? w1 _ HH.out.2.1.m0) Q3.out.1.1
  clear q3 hq3 HFN
  have hop : opM M n (a : Int) = x.op := by
    have hcd := HH.out.2.2.2.2.1
    have hx := HH.out.2.2.2.2.2.2.2.1
    rw [HNN.out.1, Int.toNat_natCast] at hcd
    simp [opM, insAt, hcd, hx, show ¬ ((a : Int) < 0) by omega]
  have hcd' := HH.out.2.2.2.2.1
  rw [HNN.out.1, Int.toNat_natCast] at hcd'
  have hop0 := (HH.out.1.wf.body cd (List.mem_of_getElem? hcd')).2.2 x (List.mem_of_getElem? HH.out.2.2.2.2.2.2.2.1)
  have HOP := Lib.hid (op_c (HH.out.1.still Q3.out) (HH.out.2.1.still Q3.out) HH.out.2.2.1.k n HNN.out.1 cd hcd' (a : Int))
  rw [hop] at HOP
  have dop : decide (x.op < 0) = false := decide_eq_false (by have := hop0.op; omega)
  have HX := Lib.hid hop0
  clear hop hop0 hcd'
  go_wp2_with fail
  generalize w3.alloc (.cells #[.slice pA t.ps.length pc, .slice rA t.rs.length rc] 36) = w4 at *
  refine HOP.out.mono ?_
  rintro e w5 ⟨rfl, n5, rfl⟩
  have Q5 := Lib.hid (Q3.out.drewN n5)
  replace f0 : (w4.drewN n5).cell? _ = _ := f0
  replace f1 : (w4.drewN n5).cell? _ = _ := f1
  clear Q3 Q1 HOP HFR
  generalize w4.drewN n5 = w5 at *
  go_wp2_with (go_at_call 39; (with_reducible refine (stuck_no _ _).mono ?_); rintro e w6 ⟨rfl, rfl⟩)
  obtain ⟨mc, tA, fA, cA, bA, tc, fc', cc, bc, mv, tv, gv, ev, dv, hi⟩ := HH.out.1.inx
  have hcd' := HH.out.2.2.2.2.1
  rw [HNN.out.1, Int.toNat_natCast] at hcd'
  obtain ⟨cb, cbo, lA0, lc0, bA', bc', rfl, _, y1, _, hbd⟩ := hi.body n cd hcd'
  obtain ⟨xb, xo, xA, xc, rfl, x0, x1, x2, x3, x4, x5, hxl⟩ := hbd.ins a x HH.out.2.2.2.2.2.2.2.1
  have i11 := Q5.out.cell hi.i11
  replace y1 := Q5.out.cell y1
  replace x0 := Q5.out.cell x0
  replace x1 := Q5.out.cell x1
  replace x2 := Q5.out.cell x2
  replace x3 := Q5.out.cell x3
  replace x4 := Q5.out.cell x4
  replace x5 := Q5.out.cell x5
  have g0 : (0 : Int) ≤ (n : Int) := by omega
  have g1 : (n : Int) < (M.codes.length : Int) := by have := (List.getElem?_eq_some_iff.1 hcd').1; omega
  have g2 : (0 : Int) ≤ (a : Int) := by omega
  have g3 : (a : Int) < (cd.body.length : Int) := by have := (List.getElem?_eq_some_iff.1 HH.out.2.2.2.2.2.2.2.1).1; omega
  have HXL := Lib.hid hxl
  have HA := Lib.hid (show a ≤ 100000 by have := (HH.out.1.wf.body cd (List.mem_of_getElem? hcd')).1; omega)
  clear hi hcd' hbd hxl
  have key : ∀ w' : World, Still w5 w' → Hid (Still w5 w') ∧ w'.cell? ⟨iB, 11, none⟩ = some (.slice (some ⟨cb, cbo, none⟩) M.codes.length cc) ∧ w'.cell? ⟨fB, k * 6, none⟩ = some (.int .i64 (n : Int)) ∧ w'.cell? ⟨cb, cbo + n * 2 + 1, none⟩ = some (.slice (some ⟨xb, xo, none⟩) cd.body.length bc') ∧
      w'.cell? ⟨xb, xo + a * 6, none⟩ = some (.int .i64 x.op) ∧ w'.cell? ⟨xb, xo + a * 6 + 1, none⟩ = some (.int .u32 x.a) ∧ w'.cell? ⟨xb, xo + a * 6 + 2, none⟩ = some (.int .u32 x.b) ∧ w'.cell? ⟨xb, xo + a * 6 + 3, none⟩ = some (.int .u64 x.n) ∧ w'.cell? ⟨xb, xo + a * 6 + 4, none⟩ = some (.slice xA x.l.length xc) ∧ w'.cell? ⟨xb, xo + a * 6 + 5, none⟩ = some (.int .i64 x.t) :=
    fun w' y => ⟨Lib.hid y, y.cell i11, y.cell f0, y.cell y1, y.cell x0, y.cell x1, y.cell x2, y.cell x3, y.cell x4, y.cell x5⟩
  have KEY := Lib.hid key
  clear key
  refine wp_region_z (fun w' => Hid (Still w5 w') ∧ w'.cell? ⟨iB, 11, none⟩ = some (.slice (some ⟨cb, cbo, none⟩) M.codes.length cc) ∧ w'.cell? ⟨fB, k * 6, none⟩ = some (.int .i64 (n : Int)) ∧ w'.cell? ⟨cb, cbo + n * 2 + 1, none⟩ = some (.slice (some ⟨xb, xo, none⟩) cd.body.length bc') ∧ w'.cell? ⟨xb, xo + a * 6, none⟩ = some (.int .i64 x.op) ∧ w'.cell? ⟨xb, xo + a * 6 + 1, none⟩ = some (.int .u32 x.a) ∧ w'.cell? ⟨xb, xo + a * 6 + 2, none⟩ = some (.int .u32 x.b) ∧ w'.cell? ⟨xb, xo + a * 6 + 3, none⟩ = some (.int .u64 x.n) ∧ w'.cell? ⟨xb, xo + a * 6 + 4, none⟩ = some (.slice xA x.l.length xc) ∧ w'.cell? ⟨xb, xo + a * 6 + 5, none⟩ = some (.int .i64 x.t)) (fun j => j == 16) (by kernel_rfl) ?_ (fun hHeld => ?_)
  · exact KEY.out _ (by repeat (first | exact hHeld.1.out | exact Still.refl _ | refine Still.drew ?_ | refine Still.alloc ?_ _ | refine Still.setNew ?_ _ _ (by simp)))
  (refine wpZ_take (i := 0) (oi := ⟨some 73, .move (.tmp 0), 53, _, _, none⟩) (v := ?_) rfl (by kernel_rfl) (fun _ _ _ h => h) (by assumption) (Or.inl ⟨by rfl, ?_⟩) ?_; rotate_left 1; · ((intro w hSw; (try dsimp only at hSw); go_split_ands; go_simp) <;> (try with_reducible rfl)))
  try simp only [Act.put, List.setIfInBounds_toArray, List.set_cons_zero, List.set_cons_succ]
  (refine wpZ_take (i := 1) (oi := ⟨some 74, .nilCheck (.tmp 73), 0, _, _, none⟩) (v := ?_) rfl (by kernel_rfl) (fun _ _ _ h => h) (by assumption) (Or.inl ⟨by rfl, ?_⟩) ?_; rotate_left 1; · ((intro w hSw; (try dsimp only at hSw); go_split_ands; go_simp) <;> (try with_reducible rfl)))
  try simp only [Act.put, List.setIfInBounds_toArray, List.set_cons_zero, List.set_cons_succ]
  (refine wpZ_take (i := 2) (oi := ⟨some 75, .fieldAddr 67 (.tmp 74) 0, 0, _, _, none⟩) (v := ?_) rfl (by kernel_rfl) (fun _ _ _ h => h) (by assumption) (Or.inl ⟨by rfl, ?_⟩) ?_; rotate_left 1; · ((intro w hSw; (try dsimp only at hSw); go_split_ands; go_simp) <;> (try with_reducible rfl)))
  try simp only [Act.put, List.setIfInBounds_toArray, List.set_cons_zero, List.set_cons_succ]
  (refine wpZ_take (i := 3) (oi := ⟨some 76, .fieldAddr 52 (.tmp 75) 11, 0, _, _, none⟩) (v := ?_) rfl (by kernel_rfl) (fun _ _ _ h => h) (by assumption) (Or.inl ⟨by rfl, ?_⟩) ?_; rotate_left 1; · ((intro w hSw; (try dsimp only at hSw); go_split_ands; go_simp) <;> (try with_reducible rfl)))
  try simp only [Act.put, List.setIfInBounds_toArray, List.set_cons_zero, List.set_cons_succ]
  (refine wpZ_take (i := 4) (oi := ⟨some 77, .load 40 (.tmp 76), 40, _, _, none⟩) (v := ?_) rfl (by kernel_rfl) (fun _ _ _ h => h) (by assumption) (Or.inl ⟨by rfl, ?_⟩) ?_; rotate_left 1; · ((intro w hSw; (try dsimp only at hSw); go_split_ands; go_simp) <;> (try with_reducible rfl)))
  try simp only [Act.put, List.setIfInBounds_toArray, List.set_cons_zero, List.set_cons_succ]
  (refine wpZ_take (i := 5) (oi := ⟨some 78, .move (.tmp 7), 107, _, _, none⟩) (v := ?_) rfl (by kernel_rfl) (fun _ _ _ h => h) (by assumption) (Or.inl ⟨by rfl, ?_⟩) ?_; rotate_left 1; · ((intro w hSw; (try dsimp only at hSw); go_split_ands; go_simp) <;> (try with_reducible rfl)))
  try simp only [Act.put, List.setIfInBounds_toArray, List.set_cons_zero, List.set_cons_succ]
  (refine wpZ_take (i := 6) (oi := ⟨some 79, .nilCheck (.tmp 78), 0, _, _, none⟩) (v := ?_) rfl (by kernel_rfl) (fun _ _ _ h => h) (by assumption) (Or.inl ⟨by rfl, ?_⟩) ?_; rotate_left 1; · ((intro w hSw; (try dsimp only at hSw); go_split_ands; go_simp) <;> (try with_reducible rfl)))
  try simp only [Act.put, List.setIfInBounds_toArray, List.set_cons_zero, List.set_cons_succ]
  (refine wpZ_take (i := 7) (oi := ⟨some 80, .fieldAddr 113 (.tmp 79) 0, 0, _, _, none⟩) (v := ?_) rfl (by kernel_rfl) (fun _ _ _ h => h) (by assumption) (Or.inl ⟨by rfl, ?_⟩) ?_; rotate_left 1; · ((intro w hSw; (try dsimp only at hSw); go_split_ands; go_simp) <;> (try with_reducible rfl)))
  try simp only [Act.put, List.setIfInBounds_toArray, List.set_cons_zero, List.set_cons_succ]
  (refine wpZ_take (i := 8) (oi := ⟨some 81, .load 3 (.tmp 80), 3, _, _, none⟩) (v := ?_) rfl (by kernel_rfl) (fun _ _ _ h => h) (by assumption) (Or.inl ⟨by rfl, ?_⟩) ?_; rotate_left 1; · ((intro w hSw; (try dsimp only at hSw); go_split_ands; go_simp) <;> (try with_reducible rfl)))
  try simp only [Act.put, List.setIfInBounds_toArray, List.set_cons_zero, List.set_cons_succ]
  (refine wpZ_take (i := 9) (oi := ⟨some 82, .indexAddr 40 (.tmp 77) (.tmp 81), 0, _, _, none⟩) (v := ?_) rfl (by kernel_rfl) (fun _ _ _ h => h) (by assumption) (Or.inl ⟨by rfl, ?_⟩) ?_; rotate_left 1; · ((intro w hSw; (try dsimp only at hSw); go_split_ands; go_simp) <;> (try with_reducible rfl)))
  try simp only [Act.put, List.setIfInBounds_toArray, List.set_cons_zero, List.set_cons_succ]
  (refine wpZ_take (i := 10) (oi := ⟨some 83, .fieldAddr 39 (.tmp 82) 1, 0, _, _, none⟩) (v := ?_) rfl (by kernel_rfl) (fun _ _ _ h => h) (by assumption) (Or.inl ⟨by rfl, ?_⟩) ?_; rotate_left 1; · ((intro w hSw; (try dsimp only at hSw); go_split_ands; go_simp) <;> (try with_reducible rfl)))
  try simp only [Act.put, List.setIfInBounds_toArray, List.set_cons_zero, List.set_cons_succ]
  (refine wpZ_take (i := 11) (oi := ⟨some 84, .load 24 (.tmp 83), 24, _, _, none⟩) (v := ?_) rfl (by kernel_rfl) (fun _ _ _ h => h) (by assumption) (Or.inl ⟨by rfl, ?_⟩) ?_; rotate_left 1; · ((intro w hSw; (try dsimp only at hSw); go_split_ands; go_simp) <;> (try with_reducible rfl)))
  try simp only [Act.put, List.setIfInBounds_toArray, List.set_cons_zero, List.set_cons_succ]
  (refine wpZ_take (i := 12) (oi := ⟨some 85, .move (.tmp 10), 3, _, _, none⟩) (v := ?_) rfl (by kernel_rfl) (fun _ _ _ h => h) (by assumption) (Or.inl ⟨by rfl, ?_⟩) ?_; rotate_left 1; · ((intro w hSw; (try dsimp only at hSw); go_split_ands; go_simp) <;> (try with_reducible rfl)))
  try simp only [Act.put, List.setIfInBounds_toArray, List.set_cons_zero, List.set_cons_succ]
  (refine wpZ_take (i := 13) (oi := ⟨some 86, .indexAddr 24 (.tmp 84) (.tmp 85), 0, _, _, none⟩) (v := ?_) rfl (by kernel_rfl) (fun _ _ _ h => h) (by assumption) (Or.inl ⟨by rfl, ?_⟩) ?_; rotate_left 1; · ((intro w hSw; (try dsimp only at hSw); go_split_ands; go_simp) <;> (try with_reducible rfl)))
  try simp only [Act.put, List.setIfInBounds_toArray, List.set_cons_zero, List.set_cons_succ]
  (refine wpZ_take (i := 14) (oi := ⟨some 87, .load 29 (.tmp 86), 29, _, _, none⟩) (v := ?_) rfl (by kernel_rfl) (fun _ _ _ h => h) (by assumption) (Or.inl ⟨by rfl, ?_⟩) ?_; rotate_left 1; · ((intro w hSw; (try dsimp only at hSw); go_split_ands; go_simp) <;> (try with_reducible rfl)))
  try simp only [Act.put, List.setIfInBounds_toArray, List.set_cons_zero, List.set_cons_succ]
  refine wpZ_one (i := 15) (oi := ⟨some 11, .alloc 29, 0, _, _, none⟩) rfl (by kernel_rfl) (fun K hK => ?_)
  go_simp
  refine hK.out _ _ (fun _ => by (exact KEY.out _ (by repeat (first | exact hHeld.1.out | exact Still.refl _ | refine Still.drew ?_ | refine Still.alloc ?_ _ | refine Still.setNew ?_ _ _ (by simp))))) (fun hh => ?_)
  have hHeld := hh rfl
  clear hK K
  try simp only [Act.put, List.setIfInBounds_toArray, List.set_cons_zero, List.set_cons_succ]
  refine wpZ_one (i := 16) (oi := ⟨none, .store 29 (.tmp 11) (.tmp 87), 0, _, _, none⟩) rfl (by kernel_rfl) (fun K hK => ?_)
  go_simp
  refine hK.out _ _ (fun h => by simp at h) (fun _ => ?_)
  clear hK K
  try simp only [Act.put, List.setIfInBounds_toArray, List.set_cons_zero, List.set_cons_succ]
  refine wpZ_done (by kernel_rfl) ?_ _
  clear hHeld KEY i11 y1 x0 x1 x2 x3 x4 x5 f0
  have q6 : Still w5 ((w5.alloc (.cells #[.int .i64 x.op, .int .u32 x.a, .int .u32 x.b, .int .u64 x.n, .slice xA x.l.length xc, .int .i64 x.t] 29)).drew) := ((Still.refl w5).alloc _).drew
  have x0 : ((w5.alloc (.cells #[.int .i64 x.op, .int .u32 x.a, .int .u32 x.b, .int .u64 x.n, .slice xA x.l.length xc, .int .i64 x.t] 29)).drew).cell? ⟨w5.heap.size, 0, none⟩ = some (.int .i64 x.op) := by simp
  have x1 : ((w5.alloc (.cells #[.int .i64 x.op, .int .u32 x.a, .int .u32 x.b, .int .u64 x.n, .slice xA x.l.length xc, .int .i64 x.t] 29)).drew).cell? ⟨w5.heap.size, 1, none⟩ = some (.int .u32 x.a) := by simp
  have x2 : ((w5.alloc (.cells #[.int .i64 x.op, .int .u32 x.a, .int .u32 x.b, .int .u64 x.n, .slice xA x.l.length xc, .int .i64 x.t] 29)).drew).cell? ⟨w5.heap.size, 2, none⟩ = some (.int .u32 x.b) := by simp
  have x3 : ((w5.alloc (.cells #[.int .i64 x.op, .int .u32 x.a, .int .u32 x.b, .int .u64 x.n, .slice xA x.l.length xc, .int .i64 x.t] 29)).drew).cell? ⟨w5.heap.size, 3, none⟩ = some (.int .u64 x.n) := by simp
  have x4 : ((w5.alloc (.cells #[.int .i64 x.op, .int .u32 x.a, .int .u32 x.b, .int .u64 x.n, .slice xA x.l.length xc, .int .i64 x.t] 29)).drew).cell? ⟨w5.heap.size, 4, none⟩ = some (.slice xA x.l.length xc) := by simp
  have x5 : ((w5.alloc (.cells #[.int .i64 x.op, .int .u32 x.a, .int .u32 x.b, .int .u64 x.n, .slice xA x.l.length xc, .int .i64 x.t] 29)).drew).cell? ⟨w5.heap.size, 5, none⟩ = some (.int .i64 x.t) := by simp
  replace f1 := q6.cell f1
  have hxB : w1.heap.size ≤ w5.heap.size := Q5.out.1.1
  have hxB2 := World.block_lt_of_cell? _ _ x0
  have Q6 := Lib.hid (Q5.out.trans q6)
  clear q6
  generalize ((w5.alloc (.cells #[.int .i64 x.op, .int .u32 x.a, .int .u32 x.b, .int .u64 x.n, .slice xA x.l.length xc, .int .i64 x.t] 29)).drew) = w6 at *
  generalize w5.heap.size = xB at *
  have h6 := HH.out.1.holds Q6.out
  have hf6 := HH.out.2.1.still Q6.out
  have hlen := HH.out.2.2.1.len
  obtain ⟨S7, L7, raws7, h7, k7, ro7, hS7, hf7⟩ := frame_numF h6 hf6 hlen ((a : Int) + 1)
  have hi1 : IntKind.i64.wrap ((a : Int) + 1) = (a : Int) + 1 := IntWalk.i64_in _ (by have := HA.out; omega)
  have z1 := hf6.frozen (k * 6 + 1)
  have bx : ∀ j v, w6.cell? ⟨xB, j, none⟩ = some v → (w6.setCell ⟨fB, k * 6 + 1, none⟩ (.int .i64 ((a : Int) + 1))).cell? ⟨xB, j, none⟩ = some v := fun j v hv => (World.cell?_of_block (a := ⟨xB, j, none⟩) (ro7.2 xB (.inr ⟨hxB, hxB2⟩))).trans hv
  have hSx := hS7 xB (.inr ⟨hxB, hxB2⟩)
  have X0 := bx 0 _ x0
  have X1 := bx 1 _ x1
  have X2 := bx 2 _ x2
  have X3 := bx 3 _ x3
  have X4 := bx 4 _ x4
  have X5 := bx 5 _ x5
  have ro16 := Q6.out.ro HH.out.1.sep.lt
  have hxl7 : RdL _ S7 1 (num1 .u32) (.slice xA x.l.length xc) x.l := HXL.out.mono (ro16.trans ro7 (fun _ h => .inl h)) (fun b hb => hS7 b (.inl hb)) (fun _ _ h => h)
  have hb7 : (setTop s.c { f with at_ := (a : Int) + 1 }).st.length ≤ 900000000 := HH.out.2.2.2.1
  have pre7 : Pre M s.i (setTop s.c { f with at_ := (a : Int) + 1 }) k { f with at_ := (a : Int) + 1 } := by
    have p := HH.out.2.2.1
    exact ⟨by simp [setTop]; exact p.len, p.k, ⟨p.ok.fn, by have := HA.out; show -1000000000 < (a : Int) + 1 ∧ (a : Int) + 1 < 1000000000; omega, p.ok.ar, p.ok.ll, p.ok.lab⟩, p.st, p.u, p.code, p.blk⟩
  have KK := Lib.hid (And.intro k7 (And.intro (ro16.trans ro7 (fun _ h => .inl h)) (fun b (hb : S b) => hS7 b (.inl hb))))
  have H7 := Lib.hid (And.intro h7 (And.intro hf7 (And.intro pre7 (And.intro hxl7 (And.intro hb7 hSx)))))
  clear h6 hf6 hlen h7 k7 ro7 hS7 hf7 bx hSx ro16 hxl7 hb7 pre7 HXL hge
  go_wp2_with fail
  clear x0 x1 x2 x3 x4 x5 z1 f1
  generalize w6.setCell ⟨fB, k * 6 + 1, none⟩ (.int .i64 ((a : Int) + 1)) = w7 at *
  have HA2 := Lib.hid (HH.out.2.2.2.2.2.2.1)
  have HCT := Lib.hid (control_c H7.out.1 H7.out.2.1 H7.out.2.2.1 x (.slice xA x.l.length xc) HX.out H7.out.2.2.2.1 HPO.out.ni (a : Int) HAT.out _ rfl)
  refine HCT.out.mono ?_
  intro e w8 hct
  cases hcc : controlC M s.i (setTop s.c { f with at_ := (a : Int) + 1 }) { f with at_ := (a : Int) + 1 } x (a : Int) with
  | some C1 =>
    rw [hcc] at hct
    obtain ⟨rfl, ht⟩ := hct
    have HT := Lib.hid ht
    have HDO := Lib.hid (show doC M s.i (setTop s.c { f with at_ := (a : Int) + 1 }) { f with at_ := (a : Int) + 1 } x (a : Int) F = (C1, s.i) by unfold doC; rw [hcc])
    clear ht hcc HCT
    obtain ⟨S9, L9, h9, k9, ro9, hS9⟩ := HT.out
    obtain ⟨fv9, vv9, A9, N9, c9, hs9⟩ := h9.stk
    have q0 := hs9.m0
    have q1 := hs9.c1
    have q2 := hs9.c2
    have hN9 := hs9.len
    have HFIN := Lib.hid (fun w' s' (hj : s'.j = none) (tt : To w8 S9 L9 u ⟨mB, cB, co, iB, .pointer none⟩ M w' s') => HD.out w' s' hj (To.trans (KK.out.1.trans k9) (((HW01.out).trans' KK.out.2.1).trans ro9 KK.out.2.2) (fun b hb => hS9 b (KK.out.2.2 b hb)) tt))
    have hR := HRR.out
    unfold oneC at hR
    rw [HA2.out] at hR
    simp only [HDO.out] at hR
    have HE9 := Lib.hid (ends_c h9 8)
    have HT9 := Lib.hid (To.refl h9)
    clear h9 k9 ro9 hS9 hs9 HT
    dsimp only at q0 q1 q2 hN9
    cases hov9 : (C1).ov with
    | true =>
      rw [hov9] at q2
      have hR : ((C1), (s.i)) = R := by rw [← hR]; simp [hov9]
      subst hR
      clear hov9 hN9 HE9
      go_wp2
      go_end0
      exact ⟨rfl, HFIN.out _ _ (by exact HJ.out) HT9.out⟩
    | false =>
      rw [hov9] at q2
      by_cases hst : 1024 < (C1).st.length
      · have dst : decide ((1024 : Int) < (N9 : Int)) = true := decide_eq_true (by omega)
        have hR : (endsC 8, (s.i)) = R := by rw [← hR]; simp [hov9, hst]
        subst hR
        clear hov9 hst hN9
        go_wp2_with fail
        refine HE9.out.mono ?_
        rintro e w10 ⟨rfl, ht⟩
        have HT10 := Lib.hid (HFIN.out _ _ (by exact HJ.out) ht)
        clear ht
        go_wp2
        go_end0
        exact ⟨rfl, HT10.out⟩
      · have dst : decide ((1024 : Int) < (N9 : Int)) = false := decide_eq_false (by omega)
        have hR : ((C1), (s.i)) = R := by rw [← hR]; simp [hov9, hst]
        subst hR
        clear hov9 hst hN9 HE9
        go_wp2
        go_end0
        exact ⟨rfl, HFIN.out _ _ (by exact HJ.out) HT9.out⟩
  | none =>
    rw [hcc] at hct
    obtain ⟨rfl, q8⟩ := hct
    replace X0 := q8.cell X0
    replace X1 := q8.cell X1
    replace X2 := q8.cell X2
    replace X3 := q8.cell X3
    replace X4 := q8.cell X4
    replace X5 := q8.cell X5
    have Q8 := Lib.hid q8
    have HPL := Lib.hid (places_c (H7.out.1.still q8) (H7.out.2.1.still q8) H7.out.2.2.1 H7.out.2.2.2.2.1 x (.slice xA x.l.length xc) HX.out rfl HPO.out _ rfl)
    have HCC := Lib.hid hcc
    clear q8 hcc HCT
    go_wp2_with fail
    refine HPL.out.mono ?_
    intro e w9 hpl
    cases hpp : placesC s.i (setTop s.c { f with at_ := (a : Int) + 1 }) { f with at_ := (a : Int) + 1 } x with
    | some r =>
      obtain ⟨C1, I1⟩ := r
      rw [hpp] at hpl
      obtain ⟨rfl, ht⟩ := hpl
      have HT := Lib.hid (To.trans (Keep.refl _ _) (Q8.out.ro H7.out.1.sep.lt) (fun _ h => h) ht)
      have HDO := Lib.hid (show doC M s.i (setTop s.c { f with at_ := (a : Int) + 1 }) { f with at_ := (a : Int) + 1 } x (a : Int) F = (C1, I1) by unfold doC; rw [HCC.out]; simp only; rw [hpp])
      clear ht hpp HPL HCC
      obtain ⟨S9, L9, h9, k9, ro9, hS9⟩ := HT.out
      obtain ⟨fv9, vv9, A9, N9, c9, hs9⟩ := h9.stk
      have q0 := hs9.m0
      have q1 := hs9.c1
      have q2 := hs9.c2
      have hN9 := hs9.len
      have HFIN := Lib.hid (fun w' s' (hj : s'.j = none) (tt : To w9 S9 L9 u ⟨mB, cB, co, iB, .pointer none⟩ M w' s') => HD.out w' s' hj (To.trans (KK.out.1.trans k9) (((HW01.out).trans' KK.out.2.1).trans ro9 KK.out.2.2) (fun b hb => hS9 b (KK.out.2.2 b hb)) tt))
      have hR := HRR.out
      unfold oneC at hR
      rw [HA2.out] at hR
      simp only [HDO.out] at hR
      have HE9 := Lib.hid (ends_c h9 8)
      have HT9 := Lib.hid (To.refl h9)
      clear h9 k9 ro9 hS9 hs9 HT
      dsimp only at q0 q1 q2 hN9
      cases hov9 : (C1).ov with
      | true =>
        rw [hov9] at q2
        have hR : ((C1), (I1)) = R := by rw [← hR]; simp [hov9]
        subst hR
        clear hov9 hN9 HE9
        go_wp2
        go_end0
        exact ⟨rfl, HFIN.out _ _ (by exact HJ.out) HT9.out⟩
      | false =>
        rw [hov9] at q2
        by_cases hst : 1024 < (C1).st.length
        · have dst : decide ((1024 : Int) < (N9 : Int)) = true := decide_eq_true (by omega)
          have hR : (endsC 8, (I1)) = R := by rw [← hR]; simp [hov9, hst]
          subst hR
          clear hov9 hst hN9
          go_wp2_with fail
          refine HE9.out.mono ?_
          rintro e w10 ⟨rfl, ht⟩
          have HT10 := Lib.hid (HFIN.out _ _ (by exact HJ.out) ht)
          clear ht
          go_wp2
          go_end0
          exact ⟨rfl, HT10.out⟩
        · have dst : decide ((1024 : Int) < (N9 : Int)) = false := decide_eq_false (by omega)
          have hR : ((C1), (I1)) = R := by rw [← hR]; simp [hov9, hst]
          subst hR
          clear hov9 hst hN9 HE9
          go_wp2
          go_end0
          exact ⟨rfl, HFIN.out _ _ (by exact HJ.out) HT9.out⟩
    | none =>
      rw [hpp] at hpl
      obtain ⟨rfl, q9⟩ := hpl
      replace X0 := q9.cell X0
      replace X1 := q9.cell X1
      replace X2 := q9.cell X2
      replace X3 := q9.cell X3
      replace X4 := q9.cell X4
      replace X5 := q9.cell X5
      have Q9 := Lib.hid (Q8.out.trans q9)
      have HPP := Lib.hid hpp
      clear q9 hpp HPL
      go_wp2_with fail
      refine (tables_no (P := ⟨mB, cB, co, iB, .pointer none⟩) w9 x (.slice xA x.l.length xc) HPO.out.nt).mono ?_
      rintro e w10 ⟨rfl, q10⟩
      replace X0 := q10.cell X0
      replace X1 := q10.cell X1
      replace X2 := q10.cell X2
      replace X3 := q10.cell X3
      replace X4 := q10.cell X4
      replace X5 := q10.cell X5
      have Q10 := Lib.hid (Q9.out.trans q10)
      clear q10 Q9
      go_wp2_with fail
      refine (bulk_no (P := ⟨mB, cB, co, iB, .pointer none⟩) w10 x (.slice xA x.l.length xc) HPO.out.nb).mono ?_
      rintro e w11 ⟨rfl, q11⟩
      replace X0 := q11.cell X0
      replace X1 := q11.cell X1
      replace X2 := q11.cell X2
      replace X3 := q11.cell X3
      replace X4 := q11.cell X4
      replace X5 := q11.cell X5
      have Q11 := Lib.hid (Q10.out.trans q11)
      clear q11 Q10
      go_wp2_with fail
      refine (moves_no (P := ⟨mB, cB, co, iB, .pointer none⟩) w11 x (.slice xA x.l.length xc) HPO.out.nm).mono ?_
      rintro e w12 ⟨rfl, q12⟩
      replace X0 := q12.cell X0
      replace X1 := q12.cell X1
      replace X2 := q12.cell X2
      replace X3 := q12.cell X3
      replace X4 := q12.cell X4
      replace X5 := q12.cell X5
      have Q12 := Lib.hid (Q11.out.trans q12)
      clear q12 Q11
      have HNU := Lib.hid (numbers_c (H7.out.1.still Q12.out) H7.out.2.2.2.2.1 H7.out.2.2.1.u x (.slice xA x.l.length xc) F HH.out.2.2.2.2.2.2.2.2)
      go_wp2_with fail
      refine HNU.out.mono ?_
      rintro e w13 ⟨rfl, ht⟩
      have HT := Lib.hid (To.trans (Keep.refl _ _) (Q12.out.ro H7.out.1.sep.lt) (fun _ h => h) ht)
      have HDO := Lib.hid (show doC M s.i (setTop s.c { f with at_ := (a : Int) + 1 }) { f with at_ := (a : Int) + 1 } x (a : Int) F = (numbersC F (setTop s.c { f with at_ := (a : Int) + 1 }), s.i) by unfold doC; rw [HCC.out]; simp only; rw [HPP.out])
      clear ht HPP HNU HCC
      obtain ⟨S9, L9, h9, k9, ro9, hS9⟩ := HT.out
      obtain ⟨fv9, vv9, A9, N9, c9, hs9⟩ := h9.stk
      have q0 := hs9.m0
      have q1 := hs9.c1
      have q2 := hs9.c2
      have hN9 := hs9.len
      have HFIN := Lib.hid (fun w' s' (hj : s'.j = none) (tt : To w13 S9 L9 u ⟨mB, cB, co, iB, .pointer none⟩ M w' s') => HD.out w' s' hj (To.trans (KK.out.1.trans k9) (((HW01.out).trans' KK.out.2.1).trans ro9 KK.out.2.2) (fun b hb => hS9 b (KK.out.2.2 b hb)) tt))
      have hR := HRR.out
      unfold oneC at hR
      rw [HA2.out] at hR
      simp only [HDO.out] at hR
      have HE9 := Lib.hid (ends_c h9 8)
      have HT9 := Lib.hid (To.refl h9)
      clear h9 k9 ro9 hS9 hs9 HT
      dsimp only at q0 q1 q2 hN9
      cases hov9 : (numbersC F (setTop s.c { f with at_ := (a : Int) + 1 })).ov with
      | true =>
        rw [hov9] at q2
        have hR : ((numbersC F (setTop s.c { f with at_ := (a : Int) + 1 })), (s.i)) = R := by rw [← hR]; simp [hov9]
        subst hR
        clear hov9 hN9 HE9
        go_wp2
        go_end0
        exact ⟨rfl, HFIN.out _ _ (by exact HJ.out) HT9.out⟩
      | false =>
        rw [hov9] at q2
        by_cases hst : 1024 < (numbersC F (setTop s.c { f with at_ := (a : Int) + 1 })).st.length
        · have dst : decide ((1024 : Int) < (N9 : Int)) = true := decide_eq_true (by omega)
          have hR : (endsC 8, (s.i)) = R := by rw [← hR]; simp [hov9, hst]
          subst hR
          clear hov9 hst hN9
          go_wp2_with fail
          refine HE9.out.mono ?_
          rintro e w10 ⟨rfl, ht⟩
          have HT10 := Lib.hid (HFIN.out _ _ (by exact HJ.out) ht)
          clear ht
          go_wp2
          go_end0
          exact ⟨rfl, HT10.out⟩
        · have dst : decide ((1024 : Int) < (N9 : Int)) = false := decide_eq_false (by omega)
          have hR : ((numbersC F (setTop s.c { f with at_ := (a : Int) + 1 })), (s.i)) = R := by rw [← hR]; simp [hov9, hst]
          subst hR
          clear hov9 hst hN9 HE9
          go_wp2
          go_end0
          exact ⟨rfl, HFIN.out _ _ (by exact HJ.out) HT9.out⟩
end Go.Proofs.YtmnebeikafigjaaGreatDoor
/- slice's Run. -/
set_option linter.unusedVariables false
namespace Go.Proofs.YtmnebeikafigjaaGreatDoor
open Go.RowKit Go.Sep Go.St
variable {w : World} {S : Nat → Prop} {L : Key → Option Ck} {u : Nat} {M : Mo}
def ms (c : Cf × In) : Ms := ⟨c.1, c.2, none⟩
/-- One step of the plain machine, and all that One asks for it. -/
def StepOk (M : Mo) (c c' : Cf × In) : Prop := ∃ (k : Nat) (f : Fr) (cd : Cd) (t : Ft) (a : Nat) (x : Ins) (F : NumFn), c.1.ov = false ∧ Pre M c.2 c.1 k f ∧ c.1.frs[k]? = some f ∧ c.1.st.length ≤ 900000000 ∧ M.codes[f.fn.toNat]? = some cd ∧
  functionM M c.2.blocks.length f.fn = some t ∧ f.at_ = a ∧ cd.body[a]? = some x ∧ Plain x.op ∧ NumOk x.op F ∧ oneC M c.2 c.1 f x F = c'
theorem one_s {cB co iB : Nat} {c c' : Cf × In} (h : Sd w S L u cB co iB M (ms c)) (hs : StepOk M c c') :
    Calls Tryz.prog 14 #[.pointer (some ⟨iB, 0, none⟩), .pointer (some ⟨cB, co, none⟩), .pointer none] w fun e w' => e = .returned (.tuple #[]) ∧ ToD w S L u cB co iB M w' (ms c') := by
  obtain ⟨k, f, cd, t, a, x, F, h1, h2, h3, h4, h5, h6, h7, h8, h9, h10, rfl⟩ := hs
  exact one_c h h1 k f h2 h3 h4 cd h5 t h6 a h7 x h8 h9 F h10
theorem Sd.over {cB co iB : Nat} {s : Ms} (h : Sd w S L u cB co iB M s) : w.cell? ⟨cB, co + 2, none⟩ = some (.bool s.c.ov) := by
  obtain ⟨fv, sv, vv, hC, _⟩ := h.cfg
  exact h.sep.cell hC 2 _ rfl
theorem ToD.refl {cB co iB : Nat} {s : Ms} (h : Sd w S L u cB co iB M s) : ToD w S L u cB co iB M w s := ⟨S, L, h, Keep.refl _ _, Ro.refl _ _, fun _ h => h⟩
theorem ToD.trans {cB co iB : Nat} {w1 w2 : World} {S1 : Nat → Prop} {L1 : Key → Option Ck} {s : Ms} (hk : Keep u L L1) (hr : Ro S w w1) (hS : ∀ b, S b → S1 b) (h : ToD w1 S1 L1 u cB co iB M w2 s) : ToD w S L u cB co iB M w2 s := by
  obtain ⟨S', L', a, b, c, d⟩ := h
  exact ⟨S', L', a, hk.trans b, hr.trans c hS, fun x hx => d x (hS x hx)⟩
set_option maxRecDepth 100000 in
set_option maxHeartbeats 1000000 in
theorem run_c {cB co iB : Nat} (st : Nat → Cf × In) (h : Sd w S L u cB co iB M (ms (st 0))) (n : Nat) (hs : ∀ k, k < n → StepOk M (st k) (st (k + 1))) (fuel : Int) (hn : (n : Int) ≤ fuel ∨ n = 0) (hn2 : n < 4611686018427387904) (hend : (st n).1.ov = true ∨ fuel ≤ n) :
    Calls Tryz.prog 29 #[.pointer (some ⟨iB, 0, none⟩), .pointer (some ⟨cB, co, none⟩), .pointer none, .int .i64 fuel] w fun e w' => e = .returned (.int .i64 (n : Int)) ∧ ToD w S L u cB co iB M w' (ms (st n)) := by
  have H := Lib.hid h
  have HS := Lib.hid hs
  have HN := Lib.hid (And.intro hn (And.intro hn2 hend))
  clear h hs hn hn2 hend
  go_enter Tryz.func29, Tryz.ntmps29
  go_wp2_with fail
  go_loopw [8] (fun i wr => ∃ j : Nat, j ≤ n ∧ i = .int .i64 j ∧ ToD w S L u cB co iB M wr (ms (st j))) (fun i _ => n - (intOf i).toNat)
  case atStart => exact ⟨0, Nat.zero_le _, rfl, ToD.refl H.out⟩
  case round =>
    obtain ⟨j, hj, rfl, S1, L1, h1, k1, ro1, hS1⟩ := hrel
    have o2 := h1.over
    have H1 := Lib.hid (And.intro h1 (And.intro k1 (And.intro ro1 hS1)))
    by_cases hlt : j < n
    · have ho : (ms (st j)).c.ov = false := by
        obtain ⟨k, f, cd, t, a, x, F, e, _⟩ := HS.out j hlt
        exact e
      rw [ho] at o2
      have d0 : decide ((j : Int) < fuel) = true := decide_eq_true (by have := HN.out.1; omega)
      have hi : IntKind.i64.wrap ((j : Int) + 1) = (j : Int) + 1 := IntWalk.i64_in _ (by have := HN.out.2.1; omega)
      have HO := Lib.hid (one_s h1 (HS.out j hlt))
      clear ho h1 k1 ro1 hS1
      go_wp2_with fail
      refine HO.out.mono ?_
      rintro e w2 ⟨rfl, ht⟩
      have HT := Lib.hid (ToD.trans H1.out.2.1 H1.out.2.2.1 H1.out.2.2.2 ht)
      clear ht
      go_wp2
      go_roundw
      case rel => exact ⟨j + 1, hlt, by go_num, HT.out⟩
      case measure => (simp [intOf]; try omega)
    · obtain rfl : j = n := by omega
      clear h1 k1 ro1 hS1 hlt
      rcases HN.out.2.2 with ho | ho
      · rw [show (ms (st j)).c.ov = true from ho] at o2
        clear ho
        go_wp2
        exact bodyPost_ret (v := .int .i64 (j : Int)) (by simp [results, Tryz.results29, go_sem]) rfl ⟨rfl, S1, L1, H1.out.1, H1.out.2.1, H1.out.2.2.1, H1.out.2.2.2⟩
      · have d0 : decide ((j : Int) < fuel) = false := decide_eq_false (by omega)
        cases hov : (ms (st j)).c.ov with
        | true =>
          rw [hov] at o2
          clear hov ho
          go_wp2
          exact bodyPost_ret (v := .int .i64 (j : Int)) (by simp [results, Tryz.results29, go_sem]) rfl ⟨rfl, S1, L1, H1.out.1, H1.out.2.1, H1.out.2.2.1, H1.out.2.2.2⟩
        | false =>
          rw [hov] at o2
          clear hov ho
          go_wp2
          exact bodyPost_ret (v := .int .i64 (j : Int)) (by simp [results, Tryz.results29, go_sem]) rfl ⟨rfl, S1, L1, H1.out.1, H1.out.2.1, H1.out.2.2.1, H1.out.2.2.2⟩
end Go.Proofs.YtmnebeikafigjaaGreatDoor
/- step's Open and Begin; slice's All. -/
set_option linter.unusedVariables false
namespace Go.Proofs.YtmnebeikafigjaaGreatDoor
open Go.RowKit Go.Sep Go.St
variable {w : World} {S : Nat → Prop} {L : Key → Option Ck} {u : Nat} {M : Mo} {s : Ms}
theorem JNil {cB co iB : Nat} (h : Sd w S L u cB co iB M s) : s.j = none := h.jou
set_option maxRecDepth 100000 in
set_option maxHeartbeats 1000000 in
theorem open_c {cB co iB : Nat} (h : Sd w S L u cB co iB M s) (hov : s.c.ov = false) (f : Nat) (hf : f < 4294967296) (A : Option Addr) (m c : Nat) (args : List Int) (hargs : RdL w S 1 (num1 .u64) (.slice A m c) args) (hw : U64 args) (hb : s.c.st.length ≤ 1000000000) :
    Calls Tryz.prog 38 #[.pointer (some ⟨iB, 0, none⟩), .pointer (some ⟨cB, co, none⟩), .int .u32 (f : Int), .slice A m c] w fun e w' => e = .returned (.tuple #[]) ∧ ToD w S L u cB co iB M w' { s with c := openC M s.i.blocks.length s.c f args } := by
  have hM := h.machine
  have HD := Lib.hid (fun w' s' (hj : s'.j = none) => To.done (w' := w') (s' := s') h hj)
  have HJ := Lib.hid h.jou
  have o2 := h.over
  rw [hov] at o2
  have HO := Lib.hid (opens_c hM f hf A m c args (hargs.mono (((Still.refl w).alloc _).ro h.sep.lt) (fun _ h => h) (fun _ _ h => h)) hw hb)
  clear h hM hf hargs hw hb hov
  go_enter Tryz.func38, Tryz.ntmps38
  go_wp2_with (go_at_call 39; (with_reducible refine (stuck_no _ _).mono ?_); rintro e w2 ⟨rfl, rfl⟩)
  refine HO.out.mono ?_
  rintro e w2 ⟨rfl, ht⟩
  have HT := Lib.hid (HD.out _ _ (by exact HJ.out) ht)
  clear ht
  go_wp2
  go_end0
  exact ⟨rfl, HT.out⟩
/-- An instance and a config's value. -/
structure Sv (w : World) (S : Nat → Prop) (L : Key → Option Ck) (u iB : Nat) (M : Mo) (C : Cf) (I : In) (fv sv vv : Value) : Prop where
  sep : Sep w S L
  mach : L .mach = none
  cfg : L (.cfg u) = none
  frs : FrsAt L u fv C.frs
  st : L (.st u) = some (.rw 26 1 sv (ints .u64 C.st))
  va : L (.va u) = some (.rw 26 1 vv (ints .u64 C.va))
  ins : InsAt w S L u iB M I
  wf : Wf M
theorem Sv.still {w1 : World} {iB : Nat} {C : Cf} {I : In} {fv sv vv : Value} (h : Sv w S L u iB M C I fv sv vv) (q : Still w w1) : Sv w1 S L u iB M C I fv sv vv :=
  ⟨h.sep.still q.1.1 q.2, h.mach, h.cfg, h.frs, h.st, h.va, h.ins.mono (q.ro h.sep.lt) (fun _ h => h) rfl rfl rfl (fun _ => rfl) rfl rfl rfl, h.wf⟩
/-- The value is laid. -/
theorem Sv.put {iB : Nat} {C : Cf} {I : In} {fv sv vv : Value} (h : Sv w S L u iB M C I fv sv vv) :
    Sd (w.alloc (.cells #[fv, sv, .bool C.ov, .int .i64 C.er, vv] 59)) S (upd L (.cfg u) (.cl w.heap.size 0 [fv, sv, .bool C.ov, .int .i64 C.er, vv])) u w.heap.size 0 iB M ⟨C, I, none⟩ := by
  have s1 := h.sep.new (.cfg u) #[fv, sv, .bool C.ov, .int .i64 C.er, vv] 59 h.cfg
  have ro : Ro S w (w.alloc (.cells #[fv, sv, .bool C.ov, .int .i64 C.er, vv] 59)) := ((Still.refl w).alloc _).ro h.sep.lt
  refine ⟨s1, by rw [upd_other _ _ (by simp)]; exact h.mach, ⟨fv, sv, vv, upd_same _ _ _, ?_, by rw [upd_other _ _ (by simp)]; exact h.st, by rw [upd_other _ _ (by simp)]; exact h.va⟩, h.ins.mono ro (fun _ h => h) (upd_other _ _ (by simp)) (upd_other _ _ (by simp)) (upd_other _ _ (by simp)) (fun k => upd_other _ _ (by simp)) (upd_other _ _ (by simp)) (upd_other _ _ (by simp)) (upd_other _ _ (by simp)), rfl, h.wf⟩
  obtain ⟨raws, q2, q3, q4⟩ := h.frs
  exact ⟨raws, q2, by rw [upd_other _ _ (by simp)]; exact q3, fun k f r x y => by rw [upd_other _ _ (by simp), upd_other _ _ (by simp)]; exact q4 k f r x y⟩
/-- The value is taken. -/
theorem Sd.take {cB co iB : Nat} (h : Sd w S L u cB co iB M s) : ∃ fv sv vv, Sv w S (Go.Sep.del L (.cfg u)) u iB M s.c s.i fv sv vv ∧ w.cell? ⟨cB, co, none⟩ = some fv ∧ w.cell? ⟨cB, co + 1, none⟩ = some sv ∧ w.cell? ⟨cB, co + 2, none⟩ = some (.bool s.c.ov) ∧ w.cell? ⟨cB, co + 3, none⟩ = some (.int .i64 s.c.er) ∧ w.cell? ⟨cB, co + 4, none⟩ = some vv := by
  obtain ⟨fv, sv, vv, q1, ⟨raws, q2, q3, q4⟩, q5, q6⟩ := h.cfg
  refine ⟨fv, sv, vv, ⟨h.sep.del _, by rw [del_other _ (by simp)]; exact h.mach, del_same _ _, ⟨raws, q2, by rw [del_other _ (by simp)]; exact q3, fun k f r x y => by rw [del_other _ (by simp), del_other _ (by simp)]; exact q4 k f r x y⟩, by rw [del_other _ (by simp)]; exact q5, by rw [del_other _ (by simp)]; exact q6, h.ins.mono (Ro.refl _ _) (fun _ h => h) (del_other _ (by simp)) (del_other _ (by simp)) (del_other _ (by simp)) (fun k => del_other _ (by simp)) (del_other _ (by simp)) (del_other _ (by simp)) (del_other _ (by simp)), h.wf⟩, h.sep.cellA q1, h.sep.cell q1 1 _ rfl, h.sep.cell q1 2 _ rfl, h.sep.cell q1 3 _ rfl, h.sep.cell q1 4 _ rfl⟩
/-- An instance alone. -/
structure Si (w : World) (S : Nat → Prop) (L : Key → Option Ck) (u iB : Nat) (M : Mo) (I : In) : Prop where
  sep : Sep w S L
  mach : L .mach = none
  cfg : L (.cfg u) = none
  ins : InsAt w S L u iB M I
  wf : Wf M
def cf0 : Cf := ⟨[], [], false, 0, []⟩
/-- No config yet. -/
theorem Si.zero {iB : Nat} {I : In} (h : Si w S L u iB M I) : Sv w S (upd (upd (upd L (.fr u) (.rw 113 6 (.slice none 0 0) [])) (.st u) (.rw 26 1 (.slice none 0 0) [])) (.va u) (.rw 26 1 (.slice none 0 0) [])) u iB M cf0 I (.slice none 0 0) (.slice none 0 0) (.slice none 0 0) := by
  have s2 := ((h.sep.nilRow (.fr u) 113 6 none).nilRow (.st u) 26 1 none).nilRow (.va u) 26 1 none
  have o : ∀ q : Key, q ≠ .fr u → q ≠ .st u → q ≠ .va u → upd (upd (upd L (.fr u) (.rw 113 6 (.slice none 0 0) [])) (.st u) (.rw 26 1 (.slice none 0 0) [])) (.va u) (.rw 26 1 (.slice none 0 0) []) q = L q := fun q a b c => by
    rw [upd_other _ _ c, upd_other _ _ b, upd_other _ _ a]
  refine ⟨s2, (o _ (by simp) (by simp) (by simp)).trans h.mach, (o _ (by simp) (by simp) (by simp)).trans h.cfg, ⟨[], rfl, ?_, fun k f r hk => by simp [cf0] at hk⟩, ?_, upd_same _ _ _, h.ins.mono (Ro.refl _ _) (fun _ h => h) (o _ (by simp) (by simp) (by simp)) (o _ (by simp) (by simp) (by simp)) (o _ (by simp) (by simp) (by simp)) (fun k => o _ (by simp) (by simp) (by simp)) (o _ (by simp) (by simp) (by simp)) (o _ (by simp) (by simp) (by simp)) (o _ (by simp) (by simp) (by simp)), h.wf⟩
  · rw [upd_other _ _ (by simp), upd_other _ _ (by simp), upd_same]; rfl
  · rw [upd_other _ _ (by simp), upd_same]; rfl
theorem Si.tmp {iB : Nat} {I : In} (h : Si w S L u iB M I) (k : Nat) (hk : L (.tmp k) = none) (arr : Array Value) (t : Nat) : Si (w.alloc (.cells arr t)) S (upd L (.tmp k) (.cl w.heap.size 0 arr.toList)) u iB M I := by
  have ro : Ro S w (w.alloc (.cells arr t)) := ((Still.refl w).alloc _).ro h.sep.lt
  exact ⟨h.sep.new (.tmp k) arr t hk, by rw [upd_other _ _ (by simp)]; exact h.mach, by rw [upd_other _ _ (by simp)]; exact h.cfg, h.ins.mono ro (fun _ h => h) (upd_other _ _ (by simp)) (upd_other _ _ (by simp)) (upd_other _ _ (by simp)) (fun k => upd_other _ _ (by simp)) (upd_other _ _ (by simp)) (upd_other _ _ (by simp)) (upd_other _ _ (by simp)), h.wf⟩
/-- A key of another kind is another one. -/
theorem Sv.move {w1 : World} {L1 : Key → Option Ck} {iB : Nat} {C : Cf} {I : In} {fv sv vv : Value} (h : Sv w S L u iB M C I fv sv vv) (s1 : Sep w1 S L1) (ro : Ro S w w1) (hk : ∀ q, (∀ k, q ≠ .tmp k) → L1 q = L q) : Sv w1 S L1 u iB M C I fv sv vv := by
  have o : ∀ q : Key, (∀ k, q ≠ .tmp k) → L1 q = L q := hk
  obtain ⟨raws, q2, q3, q4⟩ := h.frs
  exact ⟨s1, (o _ (by simp)).trans h.mach, (o _ (by simp)).trans h.cfg, ⟨raws, q2, (o _ (by simp)).trans q3, fun k f r x y => ⟨(o _ (by simp)).trans (q4 k f r x y).1, (o _ (by simp)).trans (q4 k f r x y).2⟩⟩, (o _ (by simp)).trans h.st, (o _ (by simp)).trans h.va, h.ins.mono ro (fun _ h => h) (o _ (by simp)) (o _ (by simp)) (o _ (by simp)) (fun k => o _ (by simp)) (o _ (by simp)) (o _ (by simp)) (o _ (by simp)), h.wf⟩
def BegR (w : World) (S : Nat → Prop) (L : Key → Option Ck) (u iB : Nat) (M : Mo) (C : Cf) (I : In) (e : Ending) (w' : World) : Prop :=
  ∃ fv sv vv S' L', e = .returned (.agg #[fv, sv, .bool C.ov, .int .i64 C.er, vv]) ∧ Sv w' S' L' u iB M C I fv sv vv ∧ Keep u L L' ∧ Ro S w w' ∧ ∀ b, S b → S' b
set_option maxRecDepth 100000 in
set_option maxHeartbeats 1000000 in
theorem begin_c {iB : Nat} {I : In} (h : Si w S L u iB M I) (h0 : L (.tmp 0) = none) (f : Nat) (hf : f < 4294967296) (A : Option Addr) (m c : Nat) (args : List Int) (hargs : RdL w S 1 (num1 .u64) (.slice A m c) args) (hw : U64 args) :
    Calls Tryz.prog 13 #[.pointer (some ⟨iB, 0, none⟩), .int .u32 (f : Int), .slice A m c] w (BegR w S L u iB M (openC M I.blocks.length cf0 f args) I) := by
  have h1 := h.tmp 0 h0 #[.slice none 0 0, .slice none 0 0, .bool false, .int .i64 0, .slice none 0 0] 59
  have h2 := h1.zero.put
  have q2 : Still w ((w.alloc (.cells #[.slice none 0 0, .slice none 0 0, .bool false, .int .i64 0, .slice none 0 0] 59)).alloc (.cells #[.slice none 0 0, .slice none 0 0, .bool false, .int .i64 0, .slice none 0 0] 59)) := ((Still.refl w).alloc _).alloc _
  have HO := open_c h2 rfl f hf A m c args (hargs.mono (q2.ro h.sep.lt) (fun _ h => h) (fun _ _ h => h)) hw (by simp [cf0])
  have e1 : (w.alloc (.cells #[.slice none 0 0, .slice none 0 0, .bool false, .int .i64 0, .slice none 0 0] 59)).heap.size = w.heap.size + 1 := by simp
  rw [e1] at HO
  have HOO := Lib.hid HO
  have HH := Lib.hid (And.intro h (And.intro h0 q2))
  clear HO h h0 h1 h2 hargs hw hf q2 e1
  go_enter Tryz.func13, Tryz.ntmps13
  go_wp2_with fail
  refine HOO.out.mono ?_
  rintro e w2 ⟨rfl, S2, L2, h2, k2, ro2, hS2⟩
  obtain ⟨fv, sv, vv, hv, c0, c1, c2, c3, c4⟩ := h2.take
  have ht : L2 (.tmp 0) = some (.cl w.heap.size 0 [.slice none 0 0, .slice none 0 0, .bool false, .int .i64 0, .slice none 0 0]) := by
    rw [k2 _ (by simp [Key.own]), upd_other _ _ (by simp), upd_other _ _ (by simp), upd_other _ _ (by simp), upd_other _ _ (by simp), upd_same]
  have ht' : Go.Sep.del L2 (.cfg u) (.tmp 0) = some (.cl w.heap.size 0 [.slice none 0 0, .slice none 0 0, .bool false, .int .i64 0, .slice none 0 0]) := by rw [del_other _ (by simp)]; exact ht
  obtain ⟨fA, fn, fc, rfl⟩ : ∃ A n c, fv = .slice A n c := by
    obtain ⟨_, _, q3, _⟩ := hv.frs
    obtain ⟨A, n, c, e, _⟩ := hv.sep.holds _ _ q3
    exact ⟨A, n, c, e⟩
  obtain ⟨sA, sn, sc, rfl⟩ : ∃ A n c, sv = .slice A n c := by
    obtain ⟨A, n, c, e, _⟩ := hv.sep.holds _ _ hv.st
    exact ⟨A, n, c, e⟩
  obtain ⟨vA, vn, vc, rfl⟩ : ∃ A n c, vv = .slice A n c := by
    obtain ⟨A, n, c, e, _⟩ := hv.sep.holds _ _ hv.va
    exact ⟨A, n, c, e⟩
  have tc := fun j v (hv : ([.slice none 0 0, .slice none 0 0, .bool false, .int .i64 0, .slice none 0 0] : List Value)[j]? = some v) => h2.sep.cell0 ht j v hv
  have t0 := tc 0 _ rfl
  have t1 := tc 1 _ rfl
  have t2 := tc 2 _ rfl
  have t3 := tc 3 _ rfl
  have t4 := tc 4 _ rfl
  have z0 := h2.sep.frozen ht 0
  have z1 := h2.sep.frozen ht 1
  have z2 := h2.sep.frozen ht 2
  have z3 := h2.sep.frozen ht 3
  have z4 := h2.sep.frozen ht 4
  obtain ⟨s5, r5⟩ := hv.sep.set5 ht' (.slice fA fn fc) (.slice sA sn sc) (.bool (openC M I.blocks.length cf0 (f : Int) args).ov) (.int .i64 (openC M I.blocks.length cf0 (f : Int) args).er) (.slice vA vn vc)
  simp only [Nat.zero_add] at s5 r5
  have e9 := (s5.cells (upd_same _ _ _))
  have hfin : BegR w S L u iB M (openC M I.blocks.length cf0 (f : Int) args) I (.returned (.agg #[.slice fA fn fc, .slice sA sn sc, .bool (openC M I.blocks.length cf0 (f : Int) args).ov, .int .i64 (openC M I.blocks.length cf0 (f : Int) args).er, .slice vA vn vc])) (((((w2.setCell ⟨w.heap.size, 0, none⟩ (.slice fA fn fc)).setCell ⟨w.heap.size, 1, none⟩ (.slice sA sn sc)).setCell ⟨w.heap.size, 2, none⟩ (.bool (openC M I.blocks.length cf0 (f : Int) args).ov)).setCell ⟨w.heap.size, 3, none⟩ (.int .i64 (openC M I.blocks.length cf0 (f : Int) args).er)).setCell ⟨w.heap.size, 4, none⟩ (.slice vA vn vc)) := by
    refine ⟨.slice fA fn fc, .slice sA sn sc, .slice vA vn vc, S2, _, rfl, hv.move (s5.del (.tmp 0)) r5 (fun q hq => by rw [del_other _ (hq 0), upd_other _ _ (hq 0)]), fun q hq => ?_, ((HH.out.2.2.ro HH.out.1.sep.lt).trans ro2 (fun _ h => h)).trans r5 hS2, hS2⟩
    by_cases e : q = .tmp 0
    · subst e
      rw [del_same]
      exact HH.out.2.1.symm
    · rw [del_other _ e, upd_other _ _ e, del_other _ (by rintro rfl; exact hq rfl), k2 q hq, upd_other _ _ (by rintro rfl; exact hq rfl), upd_other _ _ (by rintro rfl; exact hq rfl), upd_other _ _ (by rintro rfl; exact hq rfl), upd_other _ _ (by rintro rfl; exact hq rfl), upd_other _ _ e]
  have FIN := Lib.hid hfin
  have p0 := e9.cell 0 _ rfl
  have p1 := e9.cell 1 _ rfl
  have p2 := e9.cell 2 _ rfl
  have p3 := e9.cell 3 _ rfl
  have p4 := e9.cell 4 _ rfl
  simp only [Nat.add_zero, Nat.zero_add] at p0 p1 p2 p3 p4
  rw [Nat.zero_add] at c1 c2 c3 c4
  have hne : w.heap.size ≠ w.heap.size + 1 := by omega
  dsimp only at c2 c3
  clear hfin e9 s5 r5 ht ht' tc hv h2 k2 ro2 hS2 HOO HH
  go_wp2_with fail
  clear c0 c1 c2 c3 c4 t0 t1 t2 t3 t4 z0 z1 z2 z3 z4
  generalize (((((w2.setCell ⟨w.heap.size, 0, none⟩ (.slice fA fn fc)).setCell ⟨w.heap.size, 1, none⟩ (.slice sA sn sc)).setCell ⟨w.heap.size, 2, none⟩ (.bool (openC M I.blocks.length cf0 (f : Int) args).ov)).setCell ⟨w.heap.size, 3, none⟩ (.int .i64 (openC M I.blocks.length cf0 (f : Int) args).er)).setCell ⟨w.heap.size, 4, none⟩ (.slice vA vn vc)) = w9 at *
  exact bodyPost_ret (v := (.agg #[.slice fA fn fc, .slice sA sn sc, .bool (openC M I.blocks.length cf0 (f : Int) args).ov, .int .i64 (openC M I.blocks.length cf0 (f : Int) args).er, .slice vA vn vc])) (by simp [results, Tryz.results13, go_sem, p0, p1, p2, p3, p4]) rfl FIN.out
end Go.Proofs.YtmnebeikafigjaaGreatDoor
/- slice's All. -/
set_option linter.unusedVariables false
namespace Go.Proofs.YtmnebeikafigjaaGreatDoor
open Go.RowKit Go.Sep Go.St
variable {w : World} {S : Nat → Prop} {L : Key → Option Ck} {u : Nat} {M : Mo}
theorem Sv.si {iB : Nat} {C : Cf} {I : In} {fv sv vv : Value} (h : Sv w S L u iB M C I fv sv vv) : Si w S L u iB M I := ⟨h.sep, h.mach, h.cfg, h.ins, h.wf⟩
theorem Sv.forms {iB : Nat} {C : Cf} {I : In} {fv sv vv : Value} (h : Sv w S L u iB M C I fv sv vv) : ∃ fA fn fc sA sn sc vA vn vc, fv = .slice fA fn fc ∧ sv = .slice sA sn sc ∧ vv = .slice vA vn vc := by
  obtain ⟨_, _, q3, _⟩ := h.frs
  obtain ⟨A, n, c, e, _⟩ := h.sep.holds _ _ q3
  obtain ⟨A2, n2, c2, e2, _⟩ := h.sep.holds _ _ h.st
  obtain ⟨A3, n3, c3, e3, _⟩ := h.sep.holds _ _ h.va
  exact ⟨A, n, c, A2, n2, c2, A3, n3, c3, e, e2, e3⟩
def endOf (C : Cf) : Cf := if C.ov then C else endsC 8
set_option maxRecDepth 100000 in
set_option maxHeartbeats 1000000 in
theorem all_c {iB : Nat} {I : In} (h : Si w S L u iB M I) (h0 : L (.tmp 0) = none) (h1 : L (.tmp 1) = none) (f : Nat) (hf : f < 4294967296) (A : Option Addr) (m c : Nat) (args : List Int) (hargs : RdL w S 1 (num1 .u64) (.slice A m c) args) (hw : U64 args)
    (st : Nat → Cf × In) (hst0 : st 0 = (openC M I.blocks.length cf0 f args, I)) (n : Nat) (hs : ∀ k, k < n → StepOk M (st k) (st (k + 1))) (most : Int) (hn : (n : Int) ≤ most ∨ n = 0) (hn2 : n < 4611686018427387904) (hend : (st n).1.ov = true ∨ most ≤ n) :
    Calls Tryz.prog 65 #[.pointer (some ⟨iB, 0, none⟩), .int .u32 (f : Int), .int .i64 most, .slice A m c] w (BegR w S L u iB M (endOf (st n).1) (st n).2) := by
  have hi := h.tmp 1 h1 #[.slice none 0 0, .slice none 0 0, .bool false, .int .i64 0, .slice none 0 0] 59
  have HB := Lib.hid (begin_c hi (by rw [upd_other _ _ (by simp)]; exact h0) f hf A m c args (hargs.mono (((Still.refl w).alloc _).ro h.sep.lt) (fun _ h => h) (fun _ _ h => h)) hw)
  have HH := Lib.hid (And.intro h (And.intro h0 (And.intro h1 (And.intro hst0 (And.intro hs (And.intro hn (And.intro hn2 hend)))))))
  clear h h0 h1 hf hargs hw hst0 hs hn hn2 hend hi
  go_enter Tryz.func65, Tryz.ntmps65
  go_wp2_with fail
  refine HB.out.mono ?_
  rintro e w2 ⟨fv, sv, vv, S2, L2, rfl, hv, k2, ro2, hS2⟩
  obtain ⟨fA, fn, fc, sA, sn, sc, vA, vn, vc, rfl, rfl, rfl⟩ := hv.forms
  have hd := hv.put
  have hms : (⟨openC M I.blocks.length cf0 (f : Int) args, I, none⟩ : Ms) = ms (st 0) := by rw [HH.out.2.2.2.1]; rfl
  have hd' := hd
  rw [hms] at hd'
  clear hms
  have HR := Lib.hid (run_c st hd' n HH.out.2.2.2.2.1 most HH.out.2.2.2.2.2.1 HH.out.2.2.2.2.2.2.1 HH.out.2.2.2.2.2.2.2)
  have K2 := Lib.hid (And.intro hv (And.intro k2 (And.intro ro2 hS2)))
  clear hd hd' hv k2 ro2 hS2
  go_wp2_with fail
  refine HR.out.mono ?_
  rintro e w3 ⟨rfl, S3, L3, h3, k3, ro3, hS3⟩
  obtain ⟨fv3, sv3, vv3, hv3, c0, c1, c2, c3, c4⟩ := h3.take
  obtain ⟨fA3, fn3, fc3, sA3, sn3, sc3, vA3, vn3, vc3, rfl, rfl, rfl⟩ := hv3.forms
  have ht : L3 (.tmp 1) = some (.cl w.heap.size 0 [.slice none 0 0, .slice none 0 0, .bool false, .int .i64 0, .slice none 0 0]) := by
    rw [k3 _ (by simp [Key.own]), upd_other _ _ (by simp), K2.out.2.1 _ (by simp [Key.own]), upd_same]
  have ht' : Go.Sep.del L3 (.cfg u) (.tmp 1) = some (.cl w.heap.size 0 [.slice none 0 0, .slice none 0 0, .bool false, .int .i64 0, .slice none 0 0]) := by rw [del_other _ (by simp)]; exact ht
  have tc := fun j v (hv : ([.slice none 0 0, .slice none 0 0, .bool false, .int .i64 0, .slice none 0 0] : List Value)[j]? = some v) => h3.sep.cell0 ht j v hv
  have t0 := tc 0 _ rfl
  have t1 := tc 1 _ rfl
  have t2 := tc 2 _ rfl
  have t3 := tc 3 _ rfl
  have t4 := tc 4 _ rfl
  have z0 := h3.sep.frozen ht 0
  have z1 := h3.sep.frozen ht 1
  have z2 := h3.sep.frozen ht 2
  have z3 := h3.sep.frozen ht 3
  have z4 := h3.sep.frozen ht 4
  rw [Nat.zero_add] at c1 c2 c3 c4
  have e12 : w.heap.size < w2.heap.size := Nat.lt_of_lt_of_le (by simp) K2.out.2.2.1.1.1
  have hne : w.heap.size ≠ w2.heap.size := by omega
  have keep : ∀ (L4 : Key → Option Ck), (∀ q : Key, q.own ≠ some u → q ≠ .tmp 1 → L4 q = L3 q) → Keep u L (Go.Sep.del L4 (.tmp 1)) := fun L4 hk q hq => by
    by_cases e : q = .tmp 1
    · subst e
      rw [del_same]
      exact HH.out.2.2.1.symm
    · rw [del_other _ e, hk q hq e, k3 q hq, upd_other _ _ (by rintro rfl; exact hq rfl), K2.out.2.1 q hq, upd_other _ _ e]
  have ro13 : Ro S w w3 := (((((Still.refl w).alloc _).ro HH.out.1.sep.lt).trans K2.out.2.2.1 (fun _ h => h)).trans (((Still.refl w2).alloc _).ro K2.out.1.sep.lt) K2.out.2.2.2).trans ro3 K2.out.2.2.2
  have hS13 : ∀ b, S b → S3 b := fun b hb => hS3 b (K2.out.2.2.2 b hb)
  have HK := Lib.hid (And.intro keep (And.intro ro13 (And.intro hS13 (And.intro hv3 ht'))))
  dsimp only [ms] at c2 c3
  clear keep ro13 hS13 hv3 ht ht' tc h3 k3 ro3 hS3 HB HR K2 e12
  generalize w.heap.size = tB at *
  cases hov : (st n).1.ov with
  | true =>
    rw [hov] at c2
    obtain ⟨s5, r5⟩ := HK.out.2.2.2.1.sep.set5 HK.out.2.2.2.2 (.slice fA3 fn3 fc3) (.slice sA3 sn3 sc3) (.bool true) (.int .i64 ((st n).1).er) (.slice vA3 vn3 vc3)
    simp only [Nat.zero_add] at s5 r5
    have e9 := s5.cells (upd_same _ _ _)
    have p0 := e9.cell 0 _ rfl
    have p1 := e9.cell 1 _ rfl
    have p2 := e9.cell 2 _ rfl
    have p3 := e9.cell 3 _ rfl
    have p4 := e9.cell 4 _ rfl
    simp only [Nat.add_zero, Nat.zero_add] at p0 p1 p2 p3 p4
    have hfin : BegR w S L u iB M (endOf (st n).1) (st n).2 (.returned (.agg #[.slice fA3 fn3 fc3, .slice sA3 sn3 sc3, .bool true, .int .i64 ((st n).1).er, .slice vA3 vn3 vc3])) (((((w3.setCell ⟨tB, 0, none⟩ (.slice fA3 fn3 fc3)).setCell ⟨tB, 1, none⟩ (.slice sA3 sn3 sc3)).setCell ⟨tB, 2, none⟩ (.bool true)).setCell ⟨tB, 3, none⟩ (.int .i64 ((st n).1).er)).setCell ⟨tB, 4, none⟩ (.slice vA3 vn3 vc3)) := by
      have e : endOf (st n).1 = (st n).1 := by unfold endOf; rw [hov]; rfl
      rw [e]
      refine ⟨_, _, _, S3, _, by rw [hov], HK.out.2.2.2.1.move (s5.del (.tmp 1)) r5 (fun q hq => by rw [del_other _ (hq 1), upd_other _ _ (hq 1)]), HK.out.1 _ (fun q hq e => by rw [upd_other _ _ e, del_other _ (by rintro rfl; exact hq rfl)]), HK.out.2.1.trans r5 HK.out.2.2.1, HK.out.2.2.1⟩
    have FIN := Lib.hid hfin
    clear hfin e9 s5 r5 HK
    go_wp2_with fail
    clear c0 c1 c2 c3 c4 t0 t1 t2 t3 t4 z0 z1 z2 z3 z4
    generalize (((((w3.setCell ⟨tB, 0, none⟩ (.slice fA3 fn3 fc3)).setCell ⟨tB, 1, none⟩ (.slice sA3 sn3 sc3)).setCell ⟨tB, 2, none⟩ (.bool true)).setCell ⟨tB, 3, none⟩ (.int .i64 ((st n).1).er)).setCell ⟨tB, 4, none⟩ (.slice vA3 vn3 vc3)) = w9 at *
    exact bodyPost_ret (v := .agg #[(.slice fA3 fn3 fc3), (.slice sA3 sn3 sc3), (.bool true), (.int .i64 ((st n).1).er), (.slice vA3 vn3 vc3)]) (by simp [results, Tryz.results65, go_sem, p0, p1, p2, p3, p4]) rfl FIN.out
  | false =>
    rw [hov] at c2
    obtain ⟨s5, r5⟩ := HK.out.2.2.2.1.sep.set5 HK.out.2.2.2.2 (.slice none 0 0) (.slice none 0 0) (.bool true) (.int .i64 8) (.slice none 0 0)
    simp only [Nat.zero_add] at s5 r5
    have e9 := s5.cells (upd_same _ _ _)
    have p0 := e9.cell 0 _ rfl
    have p1 := e9.cell 1 _ rfl
    have p2 := e9.cell 2 _ rfl
    have p3 := e9.cell 3 _ rfl
    have p4 := e9.cell 4 _ rfl
    simp only [Nat.add_zero, Nat.zero_add] at p0 p1 p2 p3 p4
    have hfin : BegR w S L u iB M (endOf (st n).1) (st n).2 (.returned (.agg #[.slice none 0 0, .slice none 0 0, .bool true, .int .i64 8, .slice none 0 0])) (((((w3.setCell ⟨tB, 0, none⟩ (.slice none 0 0)).setCell ⟨tB, 1, none⟩ (.slice none 0 0)).setCell ⟨tB, 2, none⟩ (.bool true)).setCell ⟨tB, 3, none⟩ (.int .i64 8)).setCell ⟨tB, 4, none⟩ (.slice none 0 0)) := by
      have e : endOf (st n).1 = endsC 8 := by unfold endOf; rw [hov]; rfl
      rw [e]
      have h5 := HK.out.2.2.2.1.move (s5.del (.tmp 1)) r5 (fun q hq => by rw [del_other _ (hq 1), upd_other _ _ (hq 1)])
      have z := h5.si.zero
      refine ⟨_, _, _, S3, _, rfl, ⟨z.sep, z.mach, z.cfg, z.frs, z.st, z.va, z.ins, z.wf⟩, ?_, HK.out.2.1.trans r5 HK.out.2.2.1, HK.out.2.2.1⟩
      have k5 := HK.out.1 (upd (Go.Sep.del L3 (.cfg u)) (.tmp 1) (.cl tB 0 [.slice none 0 0, .slice none 0 0, .bool true, .int .i64 8, .slice none 0 0])) (fun q hq e => by rw [upd_other _ _ e, del_other _ (by rintro rfl; exact hq rfl)])
      exact ((k5.upd rfl).upd rfl).upd rfl
    have FIN := Lib.hid hfin
    clear hfin e9 s5 r5 HK
    go_wp2_with fail
    clear c0 c1 c2 c3 c4 t0 t1 t2 t3 t4 z0 z1 z2 z3 z4
    generalize (((((w3.setCell ⟨tB, 0, none⟩ (.slice none 0 0)).setCell ⟨tB, 1, none⟩ (.slice none 0 0)).setCell ⟨tB, 2, none⟩ (.bool true)).setCell ⟨tB, 3, none⟩ (.int .i64 8)).setCell ⟨tB, 4, none⟩ (.slice none 0 0)) = w9 at *
    exact bodyPost_ret (v := .agg #[(.slice none 0 0), (.slice none 0 0), (.bool true), (.int .i64 8), (.slice none 0 0)]) (by simp [results, Tryz.results65, go_sem, p0, p1, p2, p3, p4]) rfl FIN.out
end Go.Proofs.YtmnebeikafigjaaGreatDoor
