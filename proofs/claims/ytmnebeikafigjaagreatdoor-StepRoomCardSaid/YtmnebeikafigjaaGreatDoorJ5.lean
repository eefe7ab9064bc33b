/- Lemmas of the walk, part 5. -/
import Derived.Test.YtmnebeikafigjaaGreatDoorJ4
/- step's machine: places: writes. -/
set_option linter.unusedVariables false
namespace Go.Proofs.YtmnebeikafigjaaGreatDoor
open Go.RowKit Go.Sep Go.St
variable {w : World} {S : Nat → Prop} {L : Key → Option Ck} {u : Nat} {P : Ptrs} {M : Mo} {s : Ms}
theorem pop1_cellS {w' : World} {S' : Nat → Prop} {B : Option Addr} {n c : Nat} {v : Int} (h : RdL w' S' 1 (num1 .u64) (.slice B n c) [v]) : n = 1 ∧ ∃ vb vo, B = some ⟨vb, vo, none⟩ ∧ w'.cell? ⟨vb, vo, none⟩ = some (.int .u64 v) ∧ S' vb := by
  obtain ⟨vb, vo, vv1, rfl, hs, hvv, vc⟩ := h.get1 0 v rfl
  have hvv : [vv1] = [.int .u64 v] := hvv
  obtain rfl : vv1 = .int .u64 v := by simpa using hvv
  obtain ⟨A', c', e, _⟩ := h
  cases e
  exact ⟨rfl, vb, vo, rfl, vc, hs⟩
theorem To.after {w1 w2 : World} (h : To w S L u P M w1 s) (q : Still w1 w2) : To w S L u P M w2 s := by
  obtain ⟨S', L', a, b, c, d⟩ := h
  exact ⟨S', L', a.still q, b, c.trans (q.ro a.sep.lt) d, d⟩
set_option maxRecDepth 100000 in
set_option maxHeartbeats 1000000 in
theorem places_set (h : Md w S L u P M s) {k fB fc : Nat} {f : Fr} {sv vv lv bv : Value} {raws : List (Value × Value)} (hf : Frm w L u P s k f fB fc sv vv raws lv bv) (pre : Pre M s.i s.c k f) (hb : s.c.st.length ≤ 900000000) (x : Ins) (xl : Value) (hx : Ins.wf x) (CR : Cf) (hCR : CR = (match popsC s.c 1 with
    | none => endsC 17
    | some (l, C1) => if x.a.toNat < f.loc.length then (let C2 := setTop C1 { f with loc := f.loc.set x.a.toNat (l.headD 0) }; if x.op = 34 then pushI C2 (l.headD 0) else C2) else endsC 17)) (hop : x.op = 33) :
    Calls Tryz.prog 44 #[.pointer (some ⟨P.mB, 0, none⟩), insV x xl] w (PlR w S L u P M s (some (CR, s.i))) := by
  unfold insV
  have HF := Lib.hid (fun (w' : World) (q : Still w w') => frame_c (h.still q) (hf.still q) pre.k)
  have HR := Lib.hid (fun (w' : World) (q : Still w w') => (q.ro h.sep.lt))
  obtain ⟨n, hn⟩ := Int.eq_ofNat_of_zero_le hx.a.1
  have hn2 : n < 4294967296 := by have := hx.a.2; omega
  rw [hn]
  have hf4 := hf.cell 4 _ rfl
  have hlr : Row w 26 1 lv (ints .u64 f.loc) := h.sep.holds _ _ hf.loc
  have hlr' := hlr
  obtain ⟨A, n0, c, rfl, h1, h2, h3, h4, h5⟩ := hlr'
  rw [ints_len, Nat.mul_one] at h1
  subst h1
  have hml : f.loc.length ≤ maxLen := Nat.le_trans h3 h4
  have HS := Lib.hid (fun (b : Bool) (hb : decide ((n : Int) < (f.loc.length : Int)) = b) (w' : World) => has_c (n : Int) f.loc.length b (by omega) (by omega) hml hb w')
  have HP := Lib.hid (fun (w' : World) (q : Still w w') => pops_c (h.holds q) 1 (by omega) pre.st _ rfl)
  have LR := Lib.hid (And.intro hlr (And.intro hn hf4))
  rw [hn, hop, Int.toNat_natCast] at hCR
  have HCR := Lib.hid hCR
  have HH := Lib.hid (And.intro h (And.intro hf (And.intro pre (And.intro hb hx))))
  clear h hf pre hx hb h2 h3 h4 h5 hml hn2 hlr hf4 hCR
  go_enter Tryz.func44, Tryz.ntmps44
  go_wp2_with fail
  refine (HF.out _ ((Still.refl w).alloc _)).mono ?_
  rintro e w1 ⟨rfl, n1, rfl⟩
  have Q := Lib.hid (((Still.refl w).alloc (.cells #[.int .i64 x.op, .int .u32 (n : Int), .int .u32 x.b, .int .u64 x.n, xl, .int .i64 x.t] 29)).drewN n1)
  have x0 : ((w.alloc (.cells #[.int .i64 x.op, .int .u32 (n : Int), .int .u32 x.b, .int .u64 x.n, xl, .int .i64 x.t] 29)).drewN n1).cell? ⟨w.heap.size, 0, none⟩ = some (.int .i64 x.op) := by simp
  have x1 : ((w.alloc (.cells #[.int .i64 x.op, .int .u32 (n : Int), .int .u32 x.b, .int .u64 x.n, xl, .int .i64 x.t] 29)).drewN n1).cell? ⟨w.heap.size, 1, none⟩ = some (.int .u32 (n : Int)) := by simp
  have hsz : ((w.alloc (.cells #[.int .i64 x.op, .int .u32 (n : Int), .int .u32 x.b, .int .u64 x.n, xl, .int .i64 x.t] 29)).drewN n1).heap.size = w.heap.size + 1 := by simp
  try rw [hop] at *
  have hge : w.heap.size < ((w.alloc (.cells #[.int .i64 33, .int .u32 (n : Int), .int .u32 x.b, .int .u64 x.n, xl, .int .i64 x.t] 29)).drewN n1).heap.size := by simp
  clear HF hsz
  generalize ((w.alloc (.cells #[.int .i64 33, .int .u32 (n : Int), .int .u32 x.b, .int .u64 x.n, xl, .int .i64 x.t] 29)).drewN n1) = w1 at *
  clear hn
  cases hp : popsC s.c 1 with
  | none =>
    rw [hp] at HP
    have hCR := HCR.out
    rw [hp] at hCR
    simp only at hCR
    subst hCR
    clear HS LR HCR hp
    go_wp2_with fail
    refine (HP.out _ Q.out).mono ?_
    rintro e w3 ⟨rfl, ht⟩
    have HT := Lib.hid (To.trans (Keep.refl _ _) (HR.out _ Q.out) (fun _ h => .inl h) ht)
    clear ht
    go_wp2_with fail
    go_quiet (fail)
    go_wp2
    exact bodyPost_ret (v := .bool true) (by simp [results, Tryz.results44, go_sem]) rfl ⟨rfl, HT.out.after ((Still.refl _).drewN _)⟩
  | some p =>
    obtain ⟨l, C1⟩ := p
    rw [hp] at HP
    obtain ⟨v, rfl, hv, hfrs, hst, hU⟩ := pop1 hp HH.out.2.2.1.u
    have hCR := HCR.out
    rw [hp] at hCR
    have HPP := Lib.hid (And.intro hfrs (And.intro (Nat.le_trans hst HH.out.2.2.2.1) hCR))
    clear hp hv hfrs hst hU HCR hCR
    go_wp2_with fail
    refine (HP.out _ Q.out).mono ?_
    rintro e w2 ⟨B, n4, c4', rfl, S2, L2, h2, k2, ro2, hS2, rd2, sf2⟩
    obtain ⟨rfl, vb, vo, rfl, vc, hvb⟩ := pop1_cellS rd2
    obtain ⟨h, hf, pre, hb, hx⟩ := HH.out
    obtain ⟨sv2, vv2, raws2, hf2⟩ := Frm.same hf h2 sf2 HPP.out.1 pre.len
    have hge2 : w.heap.size < w2.heap.size := Nat.lt_of_lt_of_le hge ro2.1.1
    replace x0 : w2.cell? ⟨w.heap.size, 0, none⟩ = some (.int .i64 33) := (World.cell?_of_block (a := ⟨w.heap.size, 0, none⟩) (ro2.2 w.heap.size (.inr ⟨Nat.le_refl _, World.block_lt_of_cell? w1 _ x1⟩))).trans x0
    replace x1 : w2.cell? ⟨w.heap.size, 1, none⟩ = some (.int .u32 (n : Int)) := (World.cell?_of_block (a := ⟨w.heap.size, 1, none⟩) (ro2.2 w.heap.size (.inr ⟨Nat.le_refl _, World.block_lt_of_cell? w1 _ x1⟩))).trans x1
    have sx := hS2 w.heap.size (.inr ⟨Nat.le_refl _, hge⟩)
    have ROK := Lib.hid (And.intro k2 (And.intro ((HR.out _ Q.out).trans ro2 (fun _ h => .inl h)) (And.intro (fun b (hb : S b) => hS2 b (.inl hb)) (And.intro sx hvb))))
    have hk1 : C1.frs.length = k + 1 := (congrArg List.length HPP.out.1).trans pre.len
    have H2 := Lib.hid (And.intro h2 (And.intro hf2 hk1))
    have f4 := hf2.cell 4 _ rfl
    clear h hf pre hb hx h2 hf2 k2 ro2 hS2 rd2 sf2 hvb HP Q HH hk1 sx hge HR
    have b1 := World.block_lt_of_cell? w2 _ x1
    have b2 := World.block_lt_of_cell? w2 _ f4
    have b3 := World.block_lt_of_cell? w2 _ vc
    generalize w.heap.size = xB at *
    by_cases hlt : n < f.loc.length
    · have D1 := Lib.hid (HS.out true (decide_eq_true (by omega)))
      have g0 : (0 : Int) ≤ (n : Int) := by omega
      have g1 : (n : Int) < (f.loc.length : Int) := by omega
      have HLT := Lib.hid hlt
      clear HS hlt
      go_wp2_with fail
      go_quiet (first | (go_at_call 72; (with_reducible exact Calls.quiet_of_same (D1.out _))) | (go_at_call 39; (with_reducible exact Calls.quiet_of_same (stuck_same _ _))))
      go_wp2_with fail
      replace f4 : (w2.drewN nq).cell? _ = _ := f4
      replace x0 : (w2.drewN nq).cell? _ = _ := x0
      replace x1 : (w2.drewN nq).cell? _ = _ := x1
      replace vc : (w2.drewN nq).cell? _ = _ := vc
      have q3 : Still w2 ((w2.drewN nq).drew) := ((Still.refl w2).drewN nq).drew
      obtain ⟨g, c', e5, gc, gz, gt⟩ := loc_set (H2.out.1.still q3) (H2.out.2.1.still q3) H2.out.2.2 n HLT.out v
      simp only [Value.slice.injEq] at e5
      obtain ⟨rfl, _, rfl⟩ := e5
      have GT := Lib.hid (To.undrew (n := nq) (To.undrew (n := 1) gt))
      have b4 : g < (w2.drewN nq).heap.size := World.block_lt_of_cell? (w2.drewN nq) ⟨g, n, none⟩ gc
      have gc : (w2.drewN nq).cell? ⟨g, n, none⟩ = some (.int .u64 (f.loc[n]'HLT.out)) := gc
      have gz : (w2.drewN nq).frozen? ⟨g, n, none⟩ = false := gz
      have hne : g ≠ xB ∧ g ≠ vb := by
        have hlk : rowBlock (.slice (some ⟨g, 0, none⟩) f.loc.length c) = some g := by
          obtain ⟨A', n', cc1, e1, h1, h2, h3, h4, h5⟩ := LR.out.1
          cases e1
          have := HLT.out
          simp [rowBlock]
          omega
        exact ⟨fun e => H2.out.1.sep.ro (.loc u k) _ g H2.out.2.1.loc hlk (e ▸ ROK.out.2.2.2.1), fun e => H2.out.1.sep.ro (.loc u k) _ g H2.out.2.1.loc hlk (e ▸ ROK.out.2.2.2.2)⟩
      have hne1 := hne.1
      have hne2 := hne.2
      clear b1 b2 b3 hge2 q3 gt hne
      generalize w2.drewN nq = w3 at *
      refine wp_region_z (fun w' => w'.cell? ⟨fB, k * 6 + 4, none⟩ = some (.slice (some ⟨g, 0, none⟩) f.loc.length c) ∧ w'.cell? ⟨xB, 1, none⟩ = some (.int .u32 (n : Int)) ∧ w'.cell? ⟨vb, vo, none⟩ = some (.int .u64 v)) (fun j => j == 10) (by kernel_rfl) ?_ (fun hHeld => ?_)
      · exact ⟨f4, x1, vc⟩
      (refine wpZ_take (i := 0) (oi := ⟨some 96, .move (.tmp 5), 107, _, _, none⟩) (v := ?_) rfl (by kernel_rfl) (fun _ _ _ h => h) (by assumption) (Or.inl ⟨by rfl, ?_⟩) ?_; rotate_left 1; · ((intro w hSw; (try dsimp only at hSw); go_split_ands; go_simp) <;> (try with_reducible rfl)))
      try simp only [Act.put, List.setIfInBounds_toArray, List.set_cons_zero, List.set_cons_succ]
      (refine wpZ_take (i := 1) (oi := ⟨some 97, .nilCheck (.tmp 96), 0, _, _, none⟩) (v := ?_) rfl (by kernel_rfl) (fun _ _ _ h => h) (by assumption) (Or.inl ⟨by rfl, ?_⟩) ?_; rotate_left 1; · ((intro w hSw; (try dsimp only at hSw); go_split_ands; go_simp) <;> (try with_reducible rfl)))
      try simp only [Act.put, List.setIfInBounds_toArray, List.set_cons_zero, List.set_cons_succ]
      (refine wpZ_take (i := 2) (oi := ⟨some 98, .fieldAddr 113 (.tmp 97) 4, 0, _, _, none⟩) (v := ?_) rfl (by kernel_rfl) (fun _ _ _ h => h) (by assumption) (Or.inl ⟨by rfl, ?_⟩) ?_; rotate_left 1; · ((intro w hSw; (try dsimp only at hSw); go_split_ands; go_simp) <;> (try with_reducible rfl)))
      try simp only [Act.put, List.setIfInBounds_toArray, List.set_cons_zero, List.set_cons_succ]
      (refine wpZ_take (i := 3) (oi := ⟨some 99, .load 57 (.tmp 98), 57, _, _, none⟩) (v := ?_) rfl (by kernel_rfl) (fun _ _ _ h => h) (by assumption) (Or.inl ⟨by rfl, ?_⟩) ?_; rotate_left 1; · ((intro w hSw; (try dsimp only at hSw); go_split_ands; go_simp) <;> (try with_reducible rfl)))
      try simp only [Act.put, List.setIfInBounds_toArray, List.set_cons_zero, List.set_cons_succ]
      (refine wpZ_take (i := 4) (oi := ⟨some 100, .fieldAddr 29 (.tmp 3) 1, 0, _, _, none⟩) (v := ?_) rfl (by kernel_rfl) (fun _ _ _ h => h) (by assumption) (Or.inl ⟨by rfl, ?_⟩) ?_; rotate_left 1; · ((intro w hSw; (try dsimp only at hSw); go_split_ands; go_simp) <;> (try with_reducible rfl)))
      try simp only [Act.put, List.setIfInBounds_toArray, List.set_cons_zero, List.set_cons_succ]
      (refine wpZ_take (i := 5) (oi := ⟨some 101, .load 25 (.tmp 100), 25, _, _, none⟩) (v := ?_) rfl (by kernel_rfl) (fun _ _ _ h => h) (by assumption) (Or.inl ⟨by rfl, ?_⟩) ?_; rotate_left 1; · ((intro w hSw; (try dsimp only at hSw); go_split_ands; go_simp) <;> (try with_reducible rfl)))
      try simp only [Act.put, List.setIfInBounds_toArray, List.set_cons_zero, List.set_cons_succ]
      (refine wpZ_take (i := 6) (oi := ⟨some 102, .move (.tmp 8), 57, _, _, none⟩) (v := ?_) rfl (by kernel_rfl) (fun _ _ _ h => h) (by assumption) (Or.inl ⟨by rfl, ?_⟩) ?_; rotate_left 1; · ((intro w hSw; (try dsimp only at hSw); go_split_ands; go_simp) <;> (try with_reducible rfl)))
      try simp only [Act.put, List.setIfInBounds_toArray, List.set_cons_zero, List.set_cons_succ]
      (refine wpZ_take (i := 7) (oi := ⟨some 103, .indexAddr 57 (.tmp 102) (.const (.int .i64 0)), 0, _, _, none⟩) (v := ?_) rfl (by kernel_rfl) (fun _ _ _ h => h) (by assumption) (Or.inl ⟨by rfl, ?_⟩) ?_; rotate_left 1; · ((intro w hSw; (try dsimp only at hSw); go_split_ands; go_simp) <;> (try with_reducible rfl)))
      try simp only [Act.put, List.setIfInBounds_toArray, List.set_cons_zero, List.set_cons_succ]
      (refine wpZ_take (i := 8) (oi := ⟨some 104, .load 26 (.tmp 103), 26, _, _, none⟩) (v := ?_) rfl (by kernel_rfl) (fun _ _ _ h => h) (by assumption) (Or.inl ⟨by rfl, ?_⟩) ?_; rotate_left 1; · ((intro w hSw; (try dsimp only at hSw); go_split_ands; go_simp) <;> (try with_reducible rfl)))
      try simp only [Act.put, List.setIfInBounds_toArray, List.set_cons_zero, List.set_cons_succ]
      (refine wpZ_take (i := 9) (oi := ⟨some 105, .indexAddr 57 (.tmp 99) (.tmp 101), 0, _, _, none⟩) (v := ?_) rfl (by kernel_rfl) (fun _ _ _ h => h) (by assumption) (Or.inl ⟨by rfl, ?_⟩) ?_; rotate_left 1; · ((intro w hSw; (try dsimp only at hSw); go_split_ands; go_simp) <;> (try with_reducible rfl)))
      try simp only [Act.put, List.setIfInBounds_toArray, List.set_cons_zero, List.set_cons_succ]
      refine wpZ_one (i := 10) (oi := ⟨none, .store 26 (.tmp 105) (.tmp 104), 0, _, _, none⟩) rfl (by kernel_rfl) (fun K hK => ?_)
      go_simp
      refine hK.out _ _ (fun h => by simp at h) (fun _ => ?_)
      clear hK K
      try simp only [Act.put, List.setIfInBounds_toArray, List.set_cons_zero, List.set_cons_succ]
      refine wpZ_done (by kernel_rfl) ?_ _
      clear hHeld
      have GT2 : To w2 S2 L2 u P M ((w3.setCell ⟨g, n, none⟩ (.int .u64 v)).drew) { s with c := setTop C1 { f with loc := f.loc.set n v } } := GT.out
      have GT3 := Lib.hid (To.trans ROK.out.1 ROK.out.2.1 ROK.out.2.2.1 GT2)
      have hCR := HPP.out.2.2
      rw [if_pos HLT.out, if_neg (by decide)] at hCR
      have hCR : CR = setTop C1 { f with loc := f.loc.set n v } := hCR
      subst hCR
      clear GT GT2 HPP H2
      go_wp2
      exact bodyPost_ret (v := .bool true) (by simp [results, Tryz.results44, go_sem]) rfl ⟨rfl, GT3.out⟩
    · have D1 := Lib.hid (HS.out false (decide_eq_false (by omega)))
      have HE := Lib.hid (stuck_yes H2.out.1.drew)
      have hCR := HPP.out.2.2
      rw [if_neg hlt] at hCR
      subst hCR
      clear HS hlt hge2 H2 HPP
      go_wp2_with fail
      refine wp_region_z (fun w' => w'.cell? ⟨fB, k * 6 + 4, none⟩ = some (.slice A f.loc.length c) ∧ w'.cell? ⟨xB, 1, none⟩ = some (.int .u32 (n : Int))) (fun j => j == 12 || j == 13 || j == 14) (by kernel_rfl) ?_ (fun hHeld => ?_)
      · first | exact ⟨f4, x1⟩ | exact hHeld
      (refine wpZ_take (i := 0) (oi := ⟨some 81, .move (.tmp 9), 4, _, _, none⟩) (v := ?_) rfl (by kernel_rfl) (fun _ _ _ h => h) (by assumption) (Or.inl ⟨by rfl, ?_⟩) ?_; rotate_left 1; · ((intro w hSw; (try dsimp only at hSw); go_split_ands; go_simp) <;> (try with_reducible rfl)))
      try simp only [Act.put, List.setIfInBounds_toArray, List.set_cons_zero, List.set_cons_succ]
      (refine wpZ_take (i := 1) (oi := ⟨some 82, .move (.tmp 81), 4, _, _, none⟩) (v := ?_) rfl (by kernel_rfl) (fun _ _ _ h => h) (by assumption) (Or.inl ⟨by rfl, ?_⟩) ?_; rotate_left 1; · ((intro w hSw; (try dsimp only at hSw); go_split_ands; go_simp) <;> (try with_reducible rfl)))
      try simp only [Act.put, List.setIfInBounds_toArray, List.set_cons_zero, List.set_cons_succ]
      first | (refine wpZ_take (i := 2) (oi := ⟨some 83, .move (.tmp 0), 103, _, _, some (1, true)⟩) (v := ?_) rfl (by kernel_rfl) (fun _ _ _ h => h) (by assumption) (Or.inl ⟨by rfl, ?_⟩) ?_; rotate_left 1; · ((intro w hSw; (try dsimp only at hSw); go_split_ands; go_simp) <;> (try with_reducible rfl))) | (refine wpZ_take (i := 2) (oi := ⟨some 83, .move (.tmp 0), 103, _, _, some (1, true)⟩) rfl (by kernel_rfl) (fun _ _ _ h => h) (by assumption) (Or.inr ⟨by rfl, rfl⟩) ?_)
      try simp only [Act.put, List.setIfInBounds_toArray, List.set_cons_zero, List.set_cons_succ]
      first | (refine wpZ_take (i := 3) (oi := ⟨some 84, .fieldAddr 29 (.tmp 3) 1, 0, _, _, some (1, true)⟩) (v := ?_) rfl (by kernel_rfl) (fun _ _ _ h => h) (by assumption) (Or.inl ⟨by rfl, ?_⟩) ?_; rotate_left 1; · ((intro w hSw; (try dsimp only at hSw); go_split_ands; go_simp) <;> (try with_reducible rfl))) | (refine wpZ_take (i := 3) (oi := ⟨some 84, .fieldAddr 29 (.tmp 3) 1, 0, _, _, some (1, true)⟩) rfl (by kernel_rfl) (fun _ _ _ h => h) (by assumption) (Or.inr ⟨by rfl, rfl⟩) ?_)
      try simp only [Act.put, List.setIfInBounds_toArray, List.set_cons_zero, List.set_cons_succ]
      first | (refine wpZ_take (i := 4) (oi := ⟨some 85, .load 25 (.tmp 84), 25, _, _, some (1, true)⟩) (v := ?_) rfl (by kernel_rfl) (fun _ _ _ h => h) (by assumption) (Or.inl ⟨by rfl, ?_⟩) ?_; rotate_left 1; · ((intro w hSw; (try dsimp only at hSw); go_split_ands; go_simp) <;> (try with_reducible rfl))) | (refine wpZ_take (i := 4) (oi := ⟨some 85, .load 25 (.tmp 84), 25, _, _, some (1, true)⟩) rfl (by kernel_rfl) (fun _ _ _ h => h) (by assumption) (Or.inr ⟨by rfl, rfl⟩) ?_)
      try simp only [Act.put, List.setIfInBounds_toArray, List.set_cons_zero, List.set_cons_succ]
      first | (refine wpZ_take (i := 5) (oi := ⟨some 86, .move (.tmp 5), 107, _, _, some (1, true)⟩) (v := ?_) rfl (by kernel_rfl) (fun _ _ _ h => h) (by assumption) (Or.inl ⟨by rfl, ?_⟩) ?_; rotate_left 1; · ((intro w hSw; (try dsimp only at hSw); go_split_ands; go_simp) <;> (try with_reducible rfl))) | (refine wpZ_take (i := 5) (oi := ⟨some 86, .move (.tmp 5), 107, _, _, some (1, true)⟩) rfl (by kernel_rfl) (fun _ _ _ h => h) (by assumption) (Or.inr ⟨by rfl, rfl⟩) ?_)
      try simp only [Act.put, List.setIfInBounds_toArray, List.set_cons_zero, List.set_cons_succ]
      first | (refine wpZ_take (i := 6) (oi := ⟨some 87, .nilCheck (.tmp 86), 0, _, _, some (1, true)⟩) (v := ?_) rfl (by kernel_rfl) (fun _ _ _ h => h) (by assumption) (Or.inl ⟨by rfl, ?_⟩) ?_; rotate_left 1; · ((intro w hSw; (try dsimp only at hSw); go_split_ands; go_simp) <;> (try with_reducible rfl))) | (refine wpZ_take (i := 6) (oi := ⟨some 87, .nilCheck (.tmp 86), 0, _, _, some (1, true)⟩) rfl (by kernel_rfl) (fun _ _ _ h => h) (by assumption) (Or.inr ⟨by rfl, rfl⟩) ?_)
      try simp only [Act.put, List.setIfInBounds_toArray, List.set_cons_zero, List.set_cons_succ]
      first | (refine wpZ_take (i := 7) (oi := ⟨some 88, .fieldAddr 113 (.tmp 87) 4, 0, _, _, some (1, true)⟩) (v := ?_) rfl (by kernel_rfl) (fun _ _ _ h => h) (by assumption) (Or.inl ⟨by rfl, ?_⟩) ?_; rotate_left 1; · ((intro w hSw; (try dsimp only at hSw); go_split_ands; go_simp) <;> (try with_reducible rfl))) | (refine wpZ_take (i := 7) (oi := ⟨some 88, .fieldAddr 113 (.tmp 87) 4, 0, _, _, some (1, true)⟩) rfl (by kernel_rfl) (fun _ _ _ h => h) (by assumption) (Or.inr ⟨by rfl, rfl⟩) ?_)
      try simp only [Act.put, List.setIfInBounds_toArray, List.set_cons_zero, List.set_cons_succ]
      first | (refine wpZ_take (i := 8) (oi := ⟨some 89, .load 57 (.tmp 88), 57, _, _, some (1, true)⟩) (v := ?_) rfl (by kernel_rfl) (fun _ _ _ h => h) (by assumption) (Or.inl ⟨by rfl, ?_⟩) ?_; rotate_left 1; · ((intro w hSw; (try dsimp only at hSw); go_split_ands; go_simp) <;> (try with_reducible rfl))) | (refine wpZ_take (i := 8) (oi := ⟨some 89, .load 57 (.tmp 88), 57, _, _, some (1, true)⟩) rfl (by kernel_rfl) (fun _ _ _ h => h) (by assumption) (Or.inr ⟨by rfl, rfl⟩) ?_)
      try simp only [Act.put, List.setIfInBounds_toArray, List.set_cons_zero, List.set_cons_succ]
      first | (refine wpZ_take (i := 9) (oi := ⟨some 90, .call { callee := .builtin .len, args := #[.tmp 89], argTypes := #[57] }, 3, _, _, some (1, true)⟩) (v := ?_) rfl (by kernel_rfl) (fun _ _ _ h => h) (by assumption) (Or.inl ⟨by rfl, ?_⟩) ?_; rotate_left 1; · ((intro w hSw; (try dsimp only at hSw); go_split_ands; go_simp) <;> (try with_reducible rfl))) | (refine wpZ_take (i := 9) (oi := ⟨some 90, .call { callee := .builtin .len, args := #[.tmp 89], argTypes := #[57] }, 3, _, _, some (1, true)⟩) rfl (by kernel_rfl) (fun _ _ _ h => h) (by assumption) (Or.inr ⟨by rfl, rfl⟩) ?_)
      try simp only [Act.put, List.setIfInBounds_toArray, List.set_cons_zero, List.set_cons_succ]
      refine wpZ_one (i := 10) (oi := ⟨some 91, .call { callee := .value (.func 72), args := #[.tmp 85, .tmp 90], argTypes := #[25, 3] }, 4, _, _, some (1, true)⟩) rfl (by kernel_rfl) (fun K hK => ?_)
      go_simp; refine (D1.out _).mono ?_; rintro e w3 ⟨rfl, rfl⟩; go_wp2_with fail
      refine hK.out _ _ (fun _ => by (first | exact ⟨f4, x1⟩ | exact hHeld)) (fun hh => ?_)
      have hHeld := hh rfl
      clear hK K
      try simp only [Act.put, List.setIfInBounds_toArray, List.set_cons_zero, List.set_cons_succ]
      first | (refine wpZ_take (i := 11) (oi := ⟨some 92, .unOp .not 4 (.tmp 91), 4, _, _, some (1, true)⟩) (v := ?_) rfl (by kernel_rfl) (fun _ _ _ h => h) (by assumption) (Or.inl ⟨by rfl, ?_⟩) ?_; rotate_left 1; · ((intro w hSw; (try dsimp only at hSw); go_split_ands; go_simp) <;> (try with_reducible rfl))) | (refine wpZ_take (i := 11) (oi := ⟨some 92, .unOp .not 4 (.tmp 91), 4, _, _, some (1, true)⟩) rfl (by kernel_rfl) (fun _ _ _ h => h) (by assumption) (Or.inr ⟨by rfl, rfl⟩) ?_)
      try simp only [Act.put, List.setIfInBounds_toArray, List.set_cons_zero, List.set_cons_succ]
      refine wpZ_one (i := 12) (oi := ⟨some 93, .call { callee := .value (.func 39), args := #[.tmp 83, .tmp 92], argTypes := #[103, 4] }, 4, _, _, some (1, true)⟩) rfl (by kernel_rfl) (fun K hK => ?_)
      go_simp; refine HE.out.mono ?_; rintro e w3 ⟨rfl, ht⟩; have HT := Lib.hid (To.trans ROK.out.1 ROK.out.2.1 ROK.out.2.2.1 (To.undrew (n := 1) ht)); clear ht; go_wp2_with fail
      refine hK.out _ _ (fun h => by simp at h) (fun _ => ?_)
      clear hK K
      try simp only [Act.put, List.setIfInBounds_toArray, List.set_cons_zero, List.set_cons_succ]
      refine wpZ_one (i := 13) (oi := ⟨some 94, .unOp .not 4 (.tmp 93), 4, _, _, some (1, true)⟩) rfl (by kernel_rfl) (fun K hK => ?_)
      go_simp
      refine hK.out _ _ (fun h => by simp at h) (fun _ => ?_)
      clear hK K
      try simp only [Act.put, List.setIfInBounds_toArray, List.set_cons_zero, List.set_cons_succ]
      refine wpZ_one (i := 14) (oi := ⟨some 95, .pick (.tmp 82) (.tmp 94) (.const (.bool false)), 4, _, _, none⟩) rfl (by kernel_rfl) (fun K hK => ?_)
      go_simp
      refine hK.out _ _ (fun h => by simp at h) (fun _ => ?_)
      clear hK K
      try simp only [Act.put, List.setIfInBounds_toArray, List.set_cons_zero, List.set_cons_succ]
      refine wpZ_done (by kernel_rfl) ?_ _
      go_wp2; exact bodyPost_ret (v := .bool true) (by simp [results, Tryz.results44, go_sem]) rfl ⟨rfl, HT.out⟩
set_option maxRecDepth 100000 in
set_option maxHeartbeats 1000000 in
theorem places_tee (h : Md w S L u P M s) {k fB fc : Nat} {f : Fr} {sv vv lv bv : Value} {raws : List (Value × Value)} (hf : Frm w L u P s k f fB fc sv vv raws lv bv) (pre : Pre M s.i s.c k f) (hb : s.c.st.length ≤ 900000000) (x : Ins) (xl : Value) (hx : Ins.wf x) (CR : Cf) (hCR : CR = (match popsC s.c 1 with
    | none => endsC 17
    | some (l, C1) => if x.a.toNat < f.loc.length then (let C2 := setTop C1 { f with loc := f.loc.set x.a.toNat (l.headD 0) }; if x.op = 34 then pushI C2 (l.headD 0) else C2) else endsC 17)) (hop : x.op = 34) :
    Calls Tryz.prog 44 #[.pointer (some ⟨P.mB, 0, none⟩), insV x xl] w (PlR w S L u P M s (some (CR, s.i))) := by
  unfold insV
  have HF := Lib.hid (fun (w' : World) (q : Still w w') => frame_c (h.still q) (hf.still q) pre.k)
  have HR := Lib.hid (fun (w' : World) (q : Still w w') => (q.ro h.sep.lt))
  obtain ⟨n, hn⟩ := Int.eq_ofNat_of_zero_le hx.a.1
  have hn2 : n < 4294967296 := by have := hx.a.2; omega
  rw [hn]
  have hf4 := hf.cell 4 _ rfl
  have hlr : Row w 26 1 lv (ints .u64 f.loc) := h.sep.holds _ _ hf.loc
  have hlr' := hlr
  obtain ⟨A, n0, c, rfl, h1, h2, h3, h4, h5⟩ := hlr'
  rw [ints_len, Nat.mul_one] at h1
  subst h1
  have hml : f.loc.length ≤ maxLen := Nat.le_trans h3 h4
  have HS := Lib.hid (fun (b : Bool) (hb : decide ((n : Int) < (f.loc.length : Int)) = b) (w' : World) => has_c (n : Int) f.loc.length b (by omega) (by omega) hml hb w')
  have HP := Lib.hid (fun (w' : World) (q : Still w w') => pops_c (h.holds q) 1 (by omega) pre.st _ rfl)
  have LR := Lib.hid (And.intro hlr (And.intro hn hf4))
  rw [hn, hop, Int.toNat_natCast] at hCR
  have HCR := Lib.hid hCR
  have HH := Lib.hid (And.intro h (And.intro hf (And.intro pre (And.intro hb hx))))
  clear h hf pre hx hb h2 h3 h4 h5 hml hn2 hlr hf4 hCR
  go_enter Tryz.func44, Tryz.ntmps44
  go_wp2_with fail
  refine (HF.out _ ((Still.refl w).alloc _)).mono ?_
  rintro e w1 ⟨rfl, n1, rfl⟩
  have Q := Lib.hid (((Still.refl w).alloc (.cells #[.int .i64 x.op, .int .u32 (n : Int), .int .u32 x.b, .int .u64 x.n, xl, .int .i64 x.t] 29)).drewN n1)
  have x0 : ((w.alloc (.cells #[.int .i64 x.op, .int .u32 (n : Int), .int .u32 x.b, .int .u64 x.n, xl, .int .i64 x.t] 29)).drewN n1).cell? ⟨w.heap.size, 0, none⟩ = some (.int .i64 x.op) := by simp
  have x1 : ((w.alloc (.cells #[.int .i64 x.op, .int .u32 (n : Int), .int .u32 x.b, .int .u64 x.n, xl, .int .i64 x.t] 29)).drewN n1).cell? ⟨w.heap.size, 1, none⟩ = some (.int .u32 (n : Int)) := by simp
  have hsz : ((w.alloc (.cells #[.int .i64 x.op, .int .u32 (n : Int), .int .u32 x.b, .int .u64 x.n, xl, .int .i64 x.t] 29)).drewN n1).heap.size = w.heap.size + 1 := by simp
  try rw [hop] at *
  have hge : w.heap.size < ((w.alloc (.cells #[.int .i64 34, .int .u32 (n : Int), .int .u32 x.b, .int .u64 x.n, xl, .int .i64 x.t] 29)).drewN n1).heap.size := by simp
  clear HF hsz
  generalize ((w.alloc (.cells #[.int .i64 34, .int .u32 (n : Int), .int .u32 x.b, .int .u64 x.n, xl, .int .i64 x.t] 29)).drewN n1) = w1 at *
  clear hn
  cases hp : popsC s.c 1 with
  | none =>
    rw [hp] at HP
    have hCR := HCR.out
    rw [hp] at hCR
    simp only at hCR
    subst hCR
    clear HS LR HCR hp
    go_wp2_with fail
    refine (HP.out _ Q.out).mono ?_
    rintro e w3 ⟨rfl, ht⟩
    have HT := Lib.hid (To.trans (Keep.refl _ _) (HR.out _ Q.out) (fun _ h => .inl h) ht)
    clear ht
    go_wp2_with fail
    go_quiet (fail)
    go_wp2
    exact bodyPost_ret (v := .bool true) (by simp [results, Tryz.results44, go_sem]) rfl ⟨rfl, HT.out.after ((Still.refl _).drewN _)⟩
  | some p =>
    obtain ⟨l, C1⟩ := p
    rw [hp] at HP
    obtain ⟨v, rfl, hv, hfrs, hst, hU⟩ := pop1 hp HH.out.2.2.1.u
    have hCR := HCR.out
    rw [hp] at hCR
    have HPP := Lib.hid (And.intro hfrs (And.intro (Nat.le_trans hst HH.out.2.2.2.1) hCR))
    clear hp hv hfrs hst hU HCR hCR
    go_wp2_with fail
    refine (HP.out _ Q.out).mono ?_
    rintro e w2 ⟨B, n4, c4', rfl, S2, L2, h2, k2, ro2, hS2, rd2, sf2⟩
    obtain ⟨rfl, vb, vo, rfl, vc, hvb⟩ := pop1_cellS rd2
    obtain ⟨h, hf, pre, hb, hx⟩ := HH.out
    obtain ⟨sv2, vv2, raws2, hf2⟩ := Frm.same hf h2 sf2 HPP.out.1 pre.len
    have hge2 : w.heap.size < w2.heap.size := Nat.lt_of_lt_of_le hge ro2.1.1
    replace x0 : w2.cell? ⟨w.heap.size, 0, none⟩ = some (.int .i64 34) := (World.cell?_of_block (a := ⟨w.heap.size, 0, none⟩) (ro2.2 w.heap.size (.inr ⟨Nat.le_refl _, World.block_lt_of_cell? w1 _ x1⟩))).trans x0
    replace x1 : w2.cell? ⟨w.heap.size, 1, none⟩ = some (.int .u32 (n : Int)) := (World.cell?_of_block (a := ⟨w.heap.size, 1, none⟩) (ro2.2 w.heap.size (.inr ⟨Nat.le_refl _, World.block_lt_of_cell? w1 _ x1⟩))).trans x1
    have sx := hS2 w.heap.size (.inr ⟨Nat.le_refl _, hge⟩)
    have ROK := Lib.hid (And.intro k2 (And.intro ((HR.out _ Q.out).trans ro2 (fun _ h => .inl h)) (And.intro (fun b (hb : S b) => hS2 b (.inl hb)) (And.intro sx hvb))))
    have hk1 : C1.frs.length = k + 1 := (congrArg List.length HPP.out.1).trans pre.len
    have H2 := Lib.hid (And.intro h2 (And.intro hf2 hk1))
    have f4 := hf2.cell 4 _ rfl
    clear h hf pre hb hx h2 hf2 k2 ro2 hS2 rd2 sf2 hvb HP Q HH hk1 sx hge HR
    have b1 := World.block_lt_of_cell? w2 _ x1
    have b2 := World.block_lt_of_cell? w2 _ f4
    have b3 := World.block_lt_of_cell? w2 _ vc
    generalize w.heap.size = xB at *
    by_cases hlt : n < f.loc.length
    · have D1 := Lib.hid (HS.out true (decide_eq_true (by omega)))
      have g0 : (0 : Int) ≤ (n : Int) := by omega
      have g1 : (n : Int) < (f.loc.length : Int) := by omega
      have HLT := Lib.hid hlt
      clear HS hlt
      go_wp2_with fail
      go_quiet (first | (go_at_call 72; (with_reducible exact Calls.quiet_of_same (D1.out _))) | (go_at_call 39; (with_reducible exact Calls.quiet_of_same (stuck_same _ _))))
      go_wp2_with fail
      replace f4 : (w2.drewN nq).cell? _ = _ := f4
      replace x0 : (w2.drewN nq).cell? _ = _ := x0
      replace x1 : (w2.drewN nq).cell? _ = _ := x1
      replace vc : (w2.drewN nq).cell? _ = _ := vc
      have q3 : Still w2 ((w2.drewN nq).drew) := ((Still.refl w2).drewN nq).drew
      obtain ⟨g, c', e5, gc, gz, gt⟩ := loc_set (H2.out.1.still q3) (H2.out.2.1.still q3) H2.out.2.2 n HLT.out v
      simp only [Value.slice.injEq] at e5
      obtain ⟨rfl, _, rfl⟩ := e5
      have GT := Lib.hid (To.undrew (n := nq) (To.undrew (n := 1) gt))
      have b4 : g < (w2.drewN nq).heap.size := World.block_lt_of_cell? (w2.drewN nq) ⟨g, n, none⟩ gc
      have gc : (w2.drewN nq).cell? ⟨g, n, none⟩ = some (.int .u64 (f.loc[n]'HLT.out)) := gc
      have gz : (w2.drewN nq).frozen? ⟨g, n, none⟩ = false := gz
      have hne : g ≠ xB ∧ g ≠ vb := by
        have hlk : rowBlock (.slice (some ⟨g, 0, none⟩) f.loc.length c) = some g := by
          obtain ⟨A', n', cc1, e1, h1, h2, h3, h4, h5⟩ := LR.out.1
          cases e1
          have := HLT.out
          simp [rowBlock]
          omega
        exact ⟨fun e => H2.out.1.sep.ro (.loc u k) _ g H2.out.2.1.loc hlk (e ▸ ROK.out.2.2.2.1), fun e => H2.out.1.sep.ro (.loc u k) _ g H2.out.2.1.loc hlk (e ▸ ROK.out.2.2.2.2)⟩
      have hne1 := hne.1
      have hne2 := hne.2
      clear b1 b2 b3 hge2 q3 gt hne
      generalize w2.drewN nq = w3 at *
      refine wp_region_z (fun w' => w'.cell? ⟨fB, k * 6 + 4, none⟩ = some (.slice (some ⟨g, 0, none⟩) f.loc.length c) ∧ w'.cell? ⟨xB, 1, none⟩ = some (.int .u32 (n : Int)) ∧ w'.cell? ⟨vb, vo, none⟩ = some (.int .u64 v)) (fun j => j == 10) (by kernel_rfl) ?_ (fun hHeld => ?_)
      · exact ⟨f4, x1, vc⟩
      (refine wpZ_take (i := 0) (oi := ⟨some 96, .move (.tmp 5), 107, _, _, none⟩) (v := ?_) rfl (by kernel_rfl) (fun _ _ _ h => h) (by assumption) (Or.inl ⟨by rfl, ?_⟩) ?_; rotate_left 1; · ((intro w hSw; (try dsimp only at hSw); go_split_ands; go_simp) <;> (try with_reducible rfl)))
      try simp only [Act.put, List.setIfInBounds_toArray, List.set_cons_zero, List.set_cons_succ]
      (refine wpZ_take (i := 1) (oi := ⟨some 97, .nilCheck (.tmp 96), 0, _, _, none⟩) (v := ?_) rfl (by kernel_rfl) (fun _ _ _ h => h) (by assumption) (Or.inl ⟨by rfl, ?_⟩) ?_; rotate_left 1; · ((intro w hSw; (try dsimp only at hSw); go_split_ands; go_simp) <;> (try with_reducible rfl)))
      try simp only [Act.put, List.setIfInBounds_toArray, List.set_cons_zero, List.set_cons_succ]
      (refine wpZ_take (i := 2) (oi := ⟨some 98, .fieldAddr 113 (.tmp 97) 4, 0, _, _, none⟩) (v := ?_) rfl (by kernel_rfl) (fun _ _ _ h => h) (by assumption) (Or.inl ⟨by rfl, ?_⟩) ?_; rotate_left 1; · ((intro w hSw; (try dsimp only at hSw); go_split_ands; go_simp) <;> (try with_reducible rfl)))
      try simp only [Act.put, List.setIfInBounds_toArray, List.set_cons_zero, List.set_cons_succ]
      (refine wpZ_take (i := 3) (oi := ⟨some 99, .load 57 (.tmp 98), 57, _, _, none⟩) (v := ?_) rfl (by kernel_rfl) (fun _ _ _ h => h) (by assumption) (Or.inl ⟨by rfl, ?_⟩) ?_; rotate_left 1; · ((intro w hSw; (try dsimp only at hSw); go_split_ands; go_simp) <;> (try with_reducible rfl)))
      try simp only [Act.put, List.setIfInBounds_toArray, List.set_cons_zero, List.set_cons_succ]
      (refine wpZ_take (i := 4) (oi := ⟨some 100, .fieldAddr 29 (.tmp 3) 1, 0, _, _, none⟩) (v := ?_) rfl (by kernel_rfl) (fun _ _ _ h => h) (by assumption) (Or.inl ⟨by rfl, ?_⟩) ?_; rotate_left 1; · ((intro w hSw; (try dsimp only at hSw); go_split_ands; go_simp) <;> (try with_reducible rfl)))
      try simp only [Act.put, List.setIfInBounds_toArray, List.set_cons_zero, List.set_cons_succ]
      (refine wpZ_take (i := 5) (oi := ⟨some 101, .load 25 (.tmp 100), 25, _, _, none⟩) (v := ?_) rfl (by kernel_rfl) (fun _ _ _ h => h) (by assumption) (Or.inl ⟨by rfl, ?_⟩) ?_; rotate_left 1; · ((intro w hSw; (try dsimp only at hSw); go_split_ands; go_simp) <;> (try with_reducible rfl)))
      try simp only [Act.put, List.setIfInBounds_toArray, List.set_cons_zero, List.set_cons_succ]
      (refine wpZ_take (i := 6) (oi := ⟨some 102, .move (.tmp 8), 57, _, _, none⟩) (v := ?_) rfl (by kernel_rfl) (fun _ _ _ h => h) (by assumption) (Or.inl ⟨by rfl, ?_⟩) ?_; rotate_left 1; · ((intro w hSw; (try dsimp only at hSw); go_split_ands; go_simp) <;> (try with_reducible rfl)))
      try simp only [Act.put, List.setIfInBounds_toArray, List.set_cons_zero, List.set_cons_succ]
      (refine wpZ_take (i := 7) (oi := ⟨some 103, .indexAddr 57 (.tmp 102) (.const (.int .i64 0)), 0, _, _, none⟩) (v := ?_) rfl (by kernel_rfl) (fun _ _ _ h => h) (by assumption) (Or.inl ⟨by rfl, ?_⟩) ?_; rotate_left 1; · ((intro w hSw; (try dsimp only at hSw); go_split_ands; go_simp) <;> (try with_reducible rfl)))
      try simp only [Act.put, List.setIfInBounds_toArray, List.set_cons_zero, List.set_cons_succ]
      (refine wpZ_take (i := 8) (oi := ⟨some 104, .load 26 (.tmp 103), 26, _, _, none⟩) (v := ?_) rfl (by kernel_rfl) (fun _ _ _ h => h) (by assumption) (Or.inl ⟨by rfl, ?_⟩) ?_; rotate_left 1; · ((intro w hSw; (try dsimp only at hSw); go_split_ands; go_simp) <;> (try with_reducible rfl)))
      try simp only [Act.put, List.setIfInBounds_toArray, List.set_cons_zero, List.set_cons_succ]
      (refine wpZ_take (i := 9) (oi := ⟨some 105, .indexAddr 57 (.tmp 99) (.tmp 101), 0, _, _, none⟩) (v := ?_) rfl (by kernel_rfl) (fun _ _ _ h => h) (by assumption) (Or.inl ⟨by rfl, ?_⟩) ?_; rotate_left 1; · ((intro w hSw; (try dsimp only at hSw); go_split_ands; go_simp) <;> (try with_reducible rfl)))
      try simp only [Act.put, List.setIfInBounds_toArray, List.set_cons_zero, List.set_cons_succ]
      refine wpZ_one (i := 10) (oi := ⟨none, .store 26 (.tmp 105) (.tmp 104), 0, _, _, none⟩) rfl (by kernel_rfl) (fun K hK => ?_)
      go_simp
      refine hK.out _ _ (fun h => by simp at h) (fun _ => ?_)
      clear hK K
      try simp only [Act.put, List.setIfInBounds_toArray, List.set_cons_zero, List.set_cons_succ]
      refine wpZ_done (by kernel_rfl) ?_ _
      have GT2 : To w2 S2 L2 u P M ((w3.setCell ⟨g, n, none⟩ (.int .u64 v)).drew) { s with c := setTop C1 { f with loc := f.loc.set n v } } := GT.out
      obtain ⟨S4, L4, h4, k4, ro4, hS4⟩ := GT2
      have HPU := Lib.hid (push1_c h4 v (by have := HPP.out.2.1; simp only [setTop]; omega))
      have HK := Lib.hid (And.intro (ROK.out.1.trans k4) (And.intro (ROK.out.2.1.trans ro4 ROK.out.2.2.1) (fun b hb => hS4 b (ROK.out.2.2.1 b hb))))
      have hCR := HPP.out.2.2
      rw [if_pos HLT.out, if_pos trivial] at hCR
      have hCR : CR = pushI (setTop C1 { f with loc := f.loc.set n v }) v := hCR
      subst hCR
      have x0' : ((w3.setCell ⟨g, n, none⟩ (.int .u64 v)).drew).cell? ⟨xB, 0, none⟩ = some (.int .i64 34) := by go_simp
      have vc' : ((w3.setCell ⟨g, n, none⟩ (.int .u64 v)).drew).cell? ⟨vb, vo, none⟩ = some (.int .u64 v) := by go_simp
      clear GT HPP H2 h4 k4 ro4 hS4 x0 vc f4 x1 gc gz b4 hne1 hne2 hHeld
      generalize (w3.setCell ⟨g, n, none⟩ (.int .u64 v)).drew = w4 at *
      go_wp2_with fail
      refine HPU.out.mono ?_
      rintro e w5 ⟨rfl, ht⟩
      have HT := Lib.hid (To.trans HK.out.1 HK.out.2.1 HK.out.2.2 ht)
      clear ht
      go_wp2
      exact bodyPost_ret (v := .bool true) (by simp [results, Tryz.results44, go_sem]) rfl ⟨rfl, HT.out⟩
    · have D1 := Lib.hid (HS.out false (decide_eq_false (by omega)))
      have HE := Lib.hid (stuck_yes H2.out.1.drew)
      have hCR := HPP.out.2.2
      rw [if_neg hlt] at hCR
      subst hCR
      clear HS hlt hge2 H2 HPP
      go_wp2_with fail
      refine wp_region_z (fun w' => w'.cell? ⟨fB, k * 6 + 4, none⟩ = some (.slice A f.loc.length c) ∧ w'.cell? ⟨xB, 1, none⟩ = some (.int .u32 (n : Int))) (fun j => j == 12 || j == 13 || j == 14) (by kernel_rfl) ?_ (fun hHeld => ?_)
      · first | exact ⟨f4, x1⟩ | exact hHeld
      (refine wpZ_take (i := 0) (oi := ⟨some 81, .move (.tmp 9), 4, _, _, none⟩) (v := ?_) rfl (by kernel_rfl) (fun _ _ _ h => h) (by assumption) (Or.inl ⟨by rfl, ?_⟩) ?_; rotate_left 1; · ((intro w hSw; (try dsimp only at hSw); go_split_ands; go_simp) <;> (try with_reducible rfl)))
      try simp only [Act.put, List.setIfInBounds_toArray, List.set_cons_zero, List.set_cons_succ]
      (refine wpZ_take (i := 1) (oi := ⟨some 82, .move (.tmp 81), 4, _, _, none⟩) (v := ?_) rfl (by kernel_rfl) (fun _ _ _ h => h) (by assumption) (Or.inl ⟨by rfl, ?_⟩) ?_; rotate_left 1; · ((intro w hSw; (try dsimp only at hSw); go_split_ands; go_simp) <;> (try with_reducible rfl)))
      try simp only [Act.put, List.setIfInBounds_toArray, List.set_cons_zero, List.set_cons_succ]
      first | (refine wpZ_take (i := 2) (oi := ⟨some 83, .move (.tmp 0), 103, _, _, some (1, true)⟩) (v := ?_) rfl (by kernel_rfl) (fun _ _ _ h => h) (by assumption) (Or.inl ⟨by rfl, ?_⟩) ?_; rotate_left 1; · ((intro w hSw; (try dsimp only at hSw); go_split_ands; go_simp) <;> (try with_reducible rfl))) | (refine wpZ_take (i := 2) (oi := ⟨some 83, .move (.tmp 0), 103, _, _, some (1, true)⟩) rfl (by kernel_rfl) (fun _ _ _ h => h) (by assumption) (Or.inr ⟨by rfl, rfl⟩) ?_)
      try simp only [Act.put, List.setIfInBounds_toArray, List.set_cons_zero, List.set_cons_succ]
      first | (refine wpZ_take (i := 3) (oi := ⟨some 84, .fieldAddr 29 (.tmp 3) 1, 0, _, _, some (1, true)⟩) (v := ?_) rfl (by kernel_rfl) (fun _ _ _ h => h) (by assumption) (Or.inl ⟨by rfl, ?_⟩) ?_; rotate_left 1; · ((intro w hSw; (try dsimp only at hSw); go_split_ands; go_simp) <;> (try with_reducible rfl))) | (refine wpZ_take (i := 3) (oi := ⟨some 84, .fieldAddr 29 (.tmp 3) 1, 0, _, _, some (1, true)⟩) rfl (by kernel_rfl) (fun _ _ _ h => h) (by assumption) (Or.inr ⟨by rfl, rfl⟩) ?_)
      try simp only [Act.put, List.setIfInBounds_toArray, List.set_cons_zero, List.set_cons_succ]
      first | (refine wpZ_take (i := 4) (oi := ⟨some 85, .load 25 (.tmp 84), 25, _, _, some (1, true)⟩) (v := ?_) rfl (by kernel_rfl) (fun _ _ _ h => h) (by assumption) (Or.inl ⟨by rfl, ?_⟩) ?_; rotate_left 1; · ((intro w hSw; (try dsimp only at hSw); go_split_ands; go_simp) <;> (try with_reducible rfl))) | (refine wpZ_take (i := 4) (oi := ⟨some 85, .load 25 (.tmp 84), 25, _, _, some (1, true)⟩) rfl (by kernel_rfl) (fun _ _ _ h => h) (by assumption) (Or.inr ⟨by rfl, rfl⟩) ?_)
      try simp only [Act.put, List.setIfInBounds_toArray, List.set_cons_zero, List.set_cons_succ]
      first | (refine wpZ_take (i := 5) (oi := ⟨some 86, .move (.tmp 5), 107, _, _, some (1, true)⟩) (v := ?_) rfl (by kernel_rfl) (fun _ _ _ h => h) (by assumption) (Or.inl ⟨by rfl, ?_⟩) ?_; rotate_left 1; · ((intro w hSw; (try dsimp only at hSw); go_split_ands; go_simp) <;> (try with_reducible rfl))) | (refine wpZ_take (i := 5) (oi := ⟨some 86, .move (.tmp 5), 107, _, _, some (1, true)⟩) rfl (by kernel_rfl) (fun _ _ _ h => h) (by assumption) (Or.inr ⟨by rfl, rfl⟩) ?_)
      try simp only [Act.put, List.setIfInBounds_toArray, List.set_cons_zero, List.set_cons_succ]
      first | (refine wpZ_take (i := 6) (oi := ⟨some 87, .nilCheck (.tmp 86), 0, _, _, some (1, true)⟩) (v := ?_) rfl (by kernel_rfl) (fun _ _ _ h => h) (by assumption) (Or.inl ⟨by rfl, ?_⟩) ?_; rotate_left 1; · ((intro w hSw; (try dsimp only at hSw); go_split_ands; go_simp) <;> (try with_reducible rfl))) | (refine wpZ_take (i := 6) (oi := ⟨some 87, .nilCheck (.tmp 86), 0, _, _, some (1, true)⟩) rfl (by kernel_rfl) (fun _ _ _ h => h) (by assumption) (Or.inr ⟨by rfl, rfl⟩) ?_)
      try simp only [Act.put, List.setIfInBounds_toArray, List.set_cons_zero, List.set_cons_succ]
      first | (refine wpZ_take (i := 7) (oi := ⟨some 88, .fieldAddr 113 (.tmp 87) 4, 0, _, _, some (1, true)⟩) (v := ?_) rfl (by kernel_rfl) (fun _ _ _ h => h) (by assumption) (Or.inl ⟨by rfl, ?_⟩) ?_; rotate_left 1; · ((intro w hSw; (try dsimp only at hSw); go_split_ands; go_simp) <;> (try with_reducible rfl))) | (refine wpZ_take (i := 7) (oi := ⟨some 88, .fieldAddr 113 (.tmp 87) 4, 0, _, _, some (1, true)⟩) rfl (by kernel_rfl) (fun _ _ _ h => h) (by assumption) (Or.inr ⟨by rfl, rfl⟩) ?_)
      try simp only [Act.put, List.setIfInBounds_toArray, List.set_cons_zero, List.set_cons_succ]
      first | (refine wpZ_take (i := 8) (oi := ⟨some 89, .load 57 (.tmp 88), 57, _, _, some (1, true)⟩) (v := ?_) rfl (by kernel_rfl) (fun _ _ _ h => h) (by assumption) (Or.inl ⟨by rfl, ?_⟩) ?_; rotate_left 1; · ((intro w hSw; (try dsimp only at hSw); go_split_ands; go_simp) <;> (try with_reducible rfl))) | (refine wpZ_take (i := 8) (oi := ⟨some 89, .load 57 (.tmp 88), 57, _, _, some (1, true)⟩) rfl (by kernel_rfl) (fun _ _ _ h => h) (by assumption) (Or.inr ⟨by rfl, rfl⟩) ?_)
      try simp only [Act.put, List.setIfInBounds_toArray, List.set_cons_zero, List.set_cons_succ]
      first | (refine wpZ_take (i := 9) (oi := ⟨some 90, .call { callee := .builtin .len, args := #[.tmp 89], argTypes := #[57] }, 3, _, _, some (1, true)⟩) (v := ?_) rfl (by kernel_rfl) (fun _ _ _ h => h) (by assumption) (Or.inl ⟨by rfl, ?_⟩) ?_; rotate_left 1; · ((intro w hSw; (try dsimp only at hSw); go_split_ands; go_simp) <;> (try with_reducible rfl))) | (refine wpZ_take (i := 9) (oi := ⟨some 90, .call { callee := .builtin .len, args := #[.tmp 89], argTypes := #[57] }, 3, _, _, some (1, true)⟩) rfl (by kernel_rfl) (fun _ _ _ h => h) (by assumption) (Or.inr ⟨by rfl, rfl⟩) ?_)
      try simp only [Act.put, List.setIfInBounds_toArray, List.set_cons_zero, List.set_cons_succ]
      refine wpZ_one (i := 10) (oi := ⟨some 91, .call { callee := .value (.func 72), args := #[.tmp 85, .tmp 90], argTypes := #[25, 3] }, 4, _, _, some (1, true)⟩) rfl (by kernel_rfl) (fun K hK => ?_)
      go_simp; refine (D1.out _).mono ?_; rintro e w3 ⟨rfl, rfl⟩; go_wp2_with fail
      refine hK.out _ _ (fun _ => by (first | exact ⟨f4, x1⟩ | exact hHeld)) (fun hh => ?_)
      have hHeld := hh rfl
      clear hK K
      try simp only [Act.put, List.setIfInBounds_toArray, List.set_cons_zero, List.set_cons_succ]
      first | (refine wpZ_take (i := 11) (oi := ⟨some 92, .unOp .not 4 (.tmp 91), 4, _, _, some (1, true)⟩) (v := ?_) rfl (by kernel_rfl) (fun _ _ _ h => h) (by assumption) (Or.inl ⟨by rfl, ?_⟩) ?_; rotate_left 1; · ((intro w hSw; (try dsimp only at hSw); go_split_ands; go_simp) <;> (try with_reducible rfl))) | (refine wpZ_take (i := 11) (oi := ⟨some 92, .unOp .not 4 (.tmp 91), 4, _, _, some (1, true)⟩) rfl (by kernel_rfl) (fun _ _ _ h => h) (by assumption) (Or.inr ⟨by rfl, rfl⟩) ?_)
      try simp only [Act.put, List.setIfInBounds_toArray, List.set_cons_zero, List.set_cons_succ]
      refine wpZ_one (i := 12) (oi := ⟨some 93, .call { callee := .value (.func 39), args := #[.tmp 83, .tmp 92], argTypes := #[103, 4] }, 4, _, _, some (1, true)⟩) rfl (by kernel_rfl) (fun K hK => ?_)
      go_simp; refine HE.out.mono ?_; rintro e w3 ⟨rfl, ht⟩; have HT := Lib.hid (To.trans ROK.out.1 ROK.out.2.1 ROK.out.2.2.1 (To.undrew (n := 1) ht)); clear ht; go_wp2_with fail
      refine hK.out _ _ (fun h => by simp at h) (fun _ => ?_)
      clear hK K
      try simp only [Act.put, List.setIfInBounds_toArray, List.set_cons_zero, List.set_cons_succ]
      refine wpZ_one (i := 13) (oi := ⟨some 94, .unOp .not 4 (.tmp 93), 4, _, _, some (1, true)⟩) rfl (by kernel_rfl) (fun K hK => ?_)
      go_simp
      refine hK.out _ _ (fun h => by simp at h) (fun _ => ?_)
      clear hK K
      try simp only [Act.put, List.setIfInBounds_toArray, List.set_cons_zero, List.set_cons_succ]
      refine wpZ_one (i := 14) (oi := ⟨some 95, .pick (.tmp 82) (.tmp 94) (.const (.bool false)), 4, _, _, none⟩) rfl (by kernel_rfl) (fun K hK => ?_)
      go_simp
      refine hK.out _ _ (fun h => by simp at h) (fun _ => ?_)
      clear hK K
      try simp only [Act.put, List.setIfInBounds_toArray, List.set_cons_zero, List.set_cons_succ]
      refine wpZ_done (by kernel_rfl) ?_ _
      go_wp2; exact bodyPost_ret (v := .bool true) (by simp [results, Tryz.results44, go_sem]) rfl ⟨rfl, HT.out⟩
set_option maxRecDepth 100000 in
set_option maxHeartbeats 1000000 in
theorem places_gset (h : Md w S L u P M s) {k fB fc : Nat} {f : Fr} {sv vv lv bv : Value} {raws : List (Value × Value)} (hf : Frm w L u P s k f fB fc sv vv raws lv bv) (pre : Pre M s.i s.c k f) (hb : s.c.st.length ≤ 900000000) (x : Ins) (xl : Value) (hx : Ins.wf x) (hj : P.jp = .pointer none) (CR : Cf) (IR : In) (hCR : (CR, IR) = (match popsC s.c 1 with
    | none => (endsC 17, s.i)
    | some (l, C1) => if x.a.toNat < s.i.glo.length then (C1, { s.i with glo := s.i.glo.set x.a.toNat (l.headD 0) }) else (endsC 17, s.i))) (hop : x.op = 36) :
    Calls Tryz.prog 44 #[.pointer (some ⟨P.mB, 0, none⟩), insV x xl] w (PlR w S L u P M s (some (CR, IR))) := by
  unfold insV
  have HF := Lib.hid (fun (w' : World) (q : Still w w') => frame_c (h.still q) (hf.still q) pre.k)
  have HR := Lib.hid (fun (w' : World) (q : Still w w') => (q.ro h.sep.lt))
  obtain ⟨n, hn⟩ := Int.eq_ofNat_of_zero_le hx.a.1
  have hn2 : n < 4294967296 := by have := hx.a.2; omega
  rw [hn]
  obtain ⟨mc, tA, fA, cA, bA, tc, fc', cc, bc, mv, tv, gv, ev, dv, hi⟩ := h.inx
  have hm1 := hi.m1
  have hi16 := hi.i16
  have hlr : Row w 26 1 gv (ints .u64 s.i.glo) := h.sep.holds _ _ hi.glo
  have hlr' := hlr
  obtain ⟨A, n0, c, rfl, h1, h2, h3, h4, h5⟩ := hlr'
  rw [ints_len, Nat.mul_one] at h1
  subst h1
  have hml : s.i.glo.length ≤ maxLen := Nat.le_trans h3 h4
  clear hi
  have hm2 := (h.sep.cell0 h.mach 2 _ rfl)
  rw [hj] at hm2
  have HJ := Lib.hid hj
  have HN2 := Lib.hid hn2
  have HS := Lib.hid (fun (b : Bool) (hb : decide ((n : Int) < (s.i.glo.length : Int)) = b) (w' : World) => has_c (n : Int) s.i.glo.length b (by omega) (by omega) hml hb w')
  have HP := Lib.hid (fun (w' : World) (q : Still w w') => pops_c (h.holds q) 1 (by omega) pre.st _ rfl)
  have LR := Lib.hid (And.intro hlr hn)
  rw [hn, Int.toNat_natCast] at hCR
  have HCR := Lib.hid hCR
  have HH := Lib.hid (And.intro h (And.intro hf (And.intro pre (And.intro hb hx))))
  clear h hf pre hx hb h2 h3 h4 h5 hml hn2 hlr hm1 hi16 hCR hm2 hj
  go_enter Tryz.func44, Tryz.ntmps44
  go_wp2_with fail
  refine (HF.out _ ((Still.refl w).alloc _)).mono ?_
  rintro e w1 ⟨rfl, n1, rfl⟩
  have Q := Lib.hid (((Still.refl w).alloc (.cells #[.int .i64 x.op, .int .u32 (n : Int), .int .u32 x.b, .int .u64 x.n, xl, .int .i64 x.t] 29)).drewN n1)
  have x0 : ((w.alloc (.cells #[.int .i64 x.op, .int .u32 (n : Int), .int .u32 x.b, .int .u64 x.n, xl, .int .i64 x.t] 29)).drewN n1).cell? ⟨w.heap.size, 0, none⟩ = some (.int .i64 x.op) := by simp
  have x1 : ((w.alloc (.cells #[.int .i64 x.op, .int .u32 (n : Int), .int .u32 x.b, .int .u64 x.n, xl, .int .i64 x.t] 29)).drewN n1).cell? ⟨w.heap.size, 1, none⟩ = some (.int .u32 (n : Int)) := by simp
  have hsz : ((w.alloc (.cells #[.int .i64 x.op, .int .u32 (n : Int), .int .u32 x.b, .int .u64 x.n, xl, .int .i64 x.t] 29)).drewN n1).heap.size = w.heap.size + 1 := by simp
  try rw [hop] at *
  have hge : w.heap.size < ((w.alloc (.cells #[.int .i64 36, .int .u32 (n : Int), .int .u32 x.b, .int .u64 x.n, xl, .int .i64 x.t] 29)).drewN n1).heap.size := by simp
  clear HF hsz
  generalize ((w.alloc (.cells #[.int .i64 36, .int .u32 (n : Int), .int .u32 x.b, .int .u64 x.n, xl, .int .i64 x.t] 29)).drewN n1) = w1 at *
  clear hn
  cases hp : popsC s.c 1 with
  | none =>
    rw [hp] at HP
    have hCR := HCR.out
    rw [hp] at hCR
    simp only [Prod.mk.injEq] at hCR
    obtain ⟨rfl, rfl⟩ := hCR
    clear HS LR HCR hp
    go_wp2_with fail
    refine (HP.out _ Q.out).mono ?_
    rintro e w3 ⟨rfl, ht⟩
    have HT := Lib.hid (To.trans (Keep.refl _ _) (HR.out _ Q.out) (fun _ h => .inl h) ht)
    clear ht
    go_wp2_with fail
    go_quiet (fail)
    go_wp2
    exact bodyPost_ret (v := .bool true) (by simp [results, Tryz.results44, go_sem]) rfl ⟨rfl, HT.out.after ((Still.refl _).drewN _)⟩
  | some p =>
    obtain ⟨l, C1⟩ := p
    rw [hp] at HP
    obtain ⟨v, rfl, hv, hfrs, hst, hU⟩ := pop1 hp HH.out.2.2.1.u
    have hCR := HCR.out
    rw [hp] at hCR
    have HPP := Lib.hid (And.intro hfrs (And.intro (Nat.le_trans hst HH.out.2.2.2.1) hCR))
    clear hp hv hfrs hst hU HCR hCR
    go_wp2_with fail
    refine (HP.out _ Q.out).mono ?_
    rintro e w2 ⟨B, n4, c4', rfl, S2, L2, h2, k2, ro2, hS2, rd2, sf2⟩
    obtain ⟨rfl, vb, vo, rfl, vc, hvb⟩ := pop1_cellS rd2
    have hge2 : w.heap.size < w2.heap.size := Nat.lt_of_lt_of_le hge ro2.1.1
    replace x0 : w2.cell? ⟨w.heap.size, 0, none⟩ = some (.int .i64 36) := (World.cell?_of_block (a := ⟨w.heap.size, 0, none⟩) (ro2.2 w.heap.size (.inr ⟨Nat.le_refl _, World.block_lt_of_cell? w1 _ x1⟩))).trans x0
    replace x1 : w2.cell? ⟨w.heap.size, 1, none⟩ = some (.int .u32 (n : Int)) := (World.cell?_of_block (a := ⟨w.heap.size, 1, none⟩) (ro2.2 w.heap.size (.inr ⟨Nat.le_refl _, World.block_lt_of_cell? w1 _ x1⟩))).trans x1
    have sx := hS2 w.heap.size (.inr ⟨Nat.le_refl _, hge⟩)
    have ROK := Lib.hid (And.intro k2 (And.intro ((HR.out _ Q.out).trans ro2 (fun _ h => .inl h)) (And.intro (fun b (hb : S b) => hS2 b (.inl hb)) (And.intro sx hvb))))
    obtain ⟨mc2, tA2, fA2, cA2, bA2, tc2, fc2', cc2, bc2, mv2, tv2, gv2, ev2, dv2, hi2⟩ := h2.inx
    have m1 := hi2.m1
    have i16 := hi2.i16
    have m2 := hi2.m2
    have hj := HJ.out
    rw [hj] at m2
    have hlr2 : Row w2 26 1 gv2 (ints .u64 s.i.glo) := h2.sep.holds _ _ hi2.glo
    have hlr2' := hlr2
    obtain ⟨A2, n02, c2, rfl, h12, h22, h32, h42, h52⟩ := hlr2'
    rw [ints_len, Nat.mul_one] at h12
    subst h12
    have H2 := Lib.hid (And.intro h2 (And.intro hi2.glo hlr2))
    clear h2 k2 ro2 hS2 rd2 sf2 hvb HP Q HH sx hge HR hi2 h22 h32 h42 h52 hlr2 hj
    have b1 := World.block_lt_of_cell? w2 _ x1
    have b2 := World.block_lt_of_cell? w2 _ m1
    have b3 := World.block_lt_of_cell? w2 _ vc
    have b4 := World.block_lt_of_cell? w2 _ i16
    generalize w.heap.size = xB at *
    by_cases hlt : n < s.i.glo.length
    · have D1 := Lib.hid (HS.out true (decide_eq_true (by omega)))
      have g0 : (0 : Int) ≤ (n : Int) := by omega
      have g1 : (n : Int) < (s.i.glo.length : Int) := by omega
      have hi1 : IntKind.i64.wrap (n : Int) = (n : Int) := IntWalk.i64_in _ (by have := HN2.out; omega)
      have HLT := Lib.hid hlt
      clear HS hlt
      go_wp2_with fail
      go_quiet (first | (go_at_call 72; (with_reducible exact Calls.quiet_of_same (D1.out _))) | (go_at_call 39; (with_reducible exact Calls.quiet_of_same (stuck_same _ _))))
      go_wp2_with fail
      have Q2 := Lib.hid ((Still.refl w2).drewN nq)
      replace m1 : (w2.drewN nq).cell? _ = _ := m1
      replace m2 : (w2.drewN nq).cell? _ = _ := m2
      replace i16 : (w2.drewN nq).cell? _ = _ := i16
      replace x1 : (w2.drewN nq).cell? _ = _ := x1
      replace vc : (w2.drewN nq).cell? _ = _ := vc
      generalize w2.drewN nq = w3 at *
      refine wp_region_z (fun w' => w'.cell? ⟨P.mB, 1, none⟩ = some (.pointer (some ⟨P.iB, 0, none⟩)) ∧ w'.cell? ⟨P.mB, 2, none⟩ = some (.pointer none) ∧ w'.cell? ⟨xB, 1, none⟩ = some (.int .u32 (n : Int))) (fun j => j == 11) (by kernel_rfl) ?_ (fun hHeld => ?_)
      · exact ⟨m1, m2, x1⟩
      (refine wpZ_take (i := 0) (oi := ⟨some 171, .move (.tmp 0), 103, _, _, none⟩) (v := ?_) rfl (by kernel_rfl) (fun _ _ _ h => h) (by assumption) (Or.inl ⟨by rfl, ?_⟩) ?_; rotate_left 1; · ((intro w hSw; (try dsimp only at hSw); go_split_ands; go_simp) <;> (try with_reducible rfl)))
      try simp only [Act.put, List.setIfInBounds_toArray, List.set_cons_zero, List.set_cons_succ]
      (refine wpZ_take (i := 1) (oi := ⟨some 172, .nilCheck (.tmp 171), 0, _, _, none⟩) (v := ?_) rfl (by kernel_rfl) (fun _ _ _ h => h) (by assumption) (Or.inl ⟨by rfl, ?_⟩) ?_; rotate_left 1; · ((intro w hSw; (try dsimp only at hSw); go_split_ands; go_simp) <;> (try with_reducible rfl)))
      try simp only [Act.put, List.setIfInBounds_toArray, List.set_cons_zero, List.set_cons_succ]
      (refine wpZ_take (i := 2) (oi := ⟨some 173, .fieldAddr 105 (.tmp 172) 2, 0, _, _, none⟩) (v := ?_) rfl (by kernel_rfl) (fun _ _ _ h => h) (by assumption) (Or.inl ⟨by rfl, ?_⟩) ?_; rotate_left 1; · ((intro w hSw; (try dsimp only at hSw); go_split_ands; go_simp) <;> (try with_reducible rfl)))
      try simp only [Act.put, List.setIfInBounds_toArray, List.set_cons_zero, List.set_cons_succ]
      (refine wpZ_take (i := 3) (oi := ⟨some 174, .load 102 (.tmp 173), 102, _, _, none⟩) (v := ?_) rfl (by kernel_rfl) (fun _ _ _ h => h) (by assumption) (Or.inl ⟨by rfl, ?_⟩) ?_; rotate_left 1; · ((intro w hSw; (try dsimp only at hSw); go_split_ands; go_simp) <;> (try with_reducible rfl)))
      try simp only [Act.put, List.setIfInBounds_toArray, List.set_cons_zero, List.set_cons_succ]
      (refine wpZ_take (i := 4) (oi := ⟨some 175, .move (.tmp 0), 103, _, _, none⟩) (v := ?_) rfl (by kernel_rfl) (fun _ _ _ h => h) (by assumption) (Or.inl ⟨by rfl, ?_⟩) ?_; rotate_left 1; · ((intro w hSw; (try dsimp only at hSw); go_split_ands; go_simp) <;> (try with_reducible rfl)))
      try simp only [Act.put, List.setIfInBounds_toArray, List.set_cons_zero, List.set_cons_succ]
      (refine wpZ_take (i := 5) (oi := ⟨some 176, .nilCheck (.tmp 175), 0, _, _, none⟩) (v := ?_) rfl (by kernel_rfl) (fun _ _ _ h => h) (by assumption) (Or.inl ⟨by rfl, ?_⟩) ?_; rotate_left 1; · ((intro w hSw; (try dsimp only at hSw); go_split_ands; go_simp) <;> (try with_reducible rfl)))
      try simp only [Act.put, List.setIfInBounds_toArray, List.set_cons_zero, List.set_cons_succ]
      (refine wpZ_take (i := 6) (oi := ⟨some 177, .fieldAddr 105 (.tmp 176) 1, 0, _, _, none⟩) (v := ?_) rfl (by kernel_rfl) (fun _ _ _ h => h) (by assumption) (Or.inl ⟨by rfl, ?_⟩) ?_; rotate_left 1; · ((intro w hSw; (try dsimp only at hSw); go_split_ands; go_simp) <;> (try with_reducible rfl)))
      try simp only [Act.put, List.setIfInBounds_toArray, List.set_cons_zero, List.set_cons_succ]
      (refine wpZ_take (i := 7) (oi := ⟨some 178, .load 53 (.tmp 177), 53, _, _, none⟩) (v := ?_) rfl (by kernel_rfl) (fun _ _ _ h => h) (by assumption) (Or.inl ⟨by rfl, ?_⟩) ?_; rotate_left 1; · ((intro w hSw; (try dsimp only at hSw); go_split_ands; go_simp) <;> (try with_reducible rfl)))
      try simp only [Act.put, List.setIfInBounds_toArray, List.set_cons_zero, List.set_cons_succ]
      (refine wpZ_take (i := 8) (oi := ⟨some 179, .fieldAddr 29 (.tmp 3) 1, 0, _, _, none⟩) (v := ?_) rfl (by kernel_rfl) (fun _ _ _ h => h) (by assumption) (Or.inl ⟨by rfl, ?_⟩) ?_; rotate_left 1; · ((intro w hSw; (try dsimp only at hSw); go_split_ands; go_simp) <;> (try with_reducible rfl)))
      try simp only [Act.put, List.setIfInBounds_toArray, List.set_cons_zero, List.set_cons_succ]
      (refine wpZ_take (i := 9) (oi := ⟨some 180, .load 25 (.tmp 179), 25, _, _, none⟩) (v := ?_) rfl (by kernel_rfl) (fun _ _ _ h => h) (by assumption) (Or.inl ⟨by rfl, ?_⟩) ?_; rotate_left 1; · ((intro w hSw; (try dsimp only at hSw); go_split_ands; go_simp) <;> (try with_reducible rfl)))
      try simp only [Act.put, List.setIfInBounds_toArray, List.set_cons_zero, List.set_cons_succ]
      (refine wpZ_take (i := 10) (oi := ⟨some 181, .convert 25 3 (.tmp 180), 3, _, _, none⟩) (v := ?_) rfl (by kernel_rfl) (fun _ _ _ h => h) (by assumption) (Or.inl ⟨by rfl, ?_⟩) ?_; rotate_left 1; · ((intro w hSw; (try dsimp only at hSw); go_split_ands; go_simp) <;> (try with_reducible rfl)))
      try simp only [Act.put, List.setIfInBounds_toArray, List.set_cons_zero, List.set_cons_succ]
      refine wpZ_one (i := 11) (oi := ⟨some 182, .call { callee := .value (.func 82), args := #[.tmp 174, .tmp 178, .tmp 181], argTypes := #[102, 53, 3] }, 0, _, _, none⟩) rfl (by kernel_rfl) (fun K hK => ?_)
      go_simp; refine (global_nil w3.drew _ _).mono ?_; rintro e w4 ⟨rfl, hq4⟩; have Q4 := Lib.hid hq4; clear hq4; go_wp2_with fail
      refine hK.out _ _ (fun h => by simp at h) (fun _ => ?_)
      clear hK K
      try simp only [Act.put, List.setIfInBounds_toArray, List.set_cons_zero, List.set_cons_succ]
      refine wpZ_done (by kernel_rfl) ?_ _
      clear hHeld b1 b2 b3 b4 hge2 D1
      replace m1 := Q4.out.cell (show w3.drew.cell? _ = _ from m1)
      replace i16 := Q4.out.cell (show w3.drew.cell? _ = _ from i16)
      replace x1 := Q4.out.cell (show w3.drew.cell? _ = _ from x1)
      replace vc := Q4.out.cell (show w3.drew.cell? _ = _ from vc)
      have q5 : Still w2 w4.drew := (Q2.out.trans ((Still.refl w3).drew.trans Q4.out)).drew
      obtain ⟨g, c', e5, gc, gz, gt⟩ := glo_set (H2.out.1.still q5) n HLT.out v
      have e6 : w4.cell? ⟨P.iB, 16, none⟩ = some (.slice (some ⟨g, 0, none⟩) s.i.glo.length c') := e5
      rw [i16] at e6
      simp only [Option.some.injEq, Value.slice.injEq] at e6
      obtain ⟨rfl, _, rfl⟩ := e6
      have GT := Lib.hid (To.trans ROK.out.1 (ROK.out.2.1.trans (q5.ro H2.out.1.sep.lt) ROK.out.2.2.1) ROK.out.2.2.1 gt)
      have hCR := HPP.out.2.2
      rw [if_pos HLT.out] at hCR
      simp only [Prod.mk.injEq] at hCR
      obtain ⟨rfl, rfl⟩ := hCR
      have gc : w4.cell? ⟨g, n, none⟩ = some (.int .u64 (s.i.glo[n]'HLT.out)) := gc
      have gz : w4.frozen? ⟨g, n, none⟩ = false := gz
      clear q5 gt H2 HPP e5
      go_wp2_with fail
      refine wp_region_z (fun w' => w'.cell? ⟨P.mB, 1, none⟩ = some (.pointer (some ⟨P.iB, 0, none⟩)) ∧ w'.cell? ⟨P.iB, 16, none⟩ = some (.slice (some ⟨g, 0, none⟩) s.i.glo.length c2) ∧ w'.cell? ⟨xB, 1, none⟩ = some (.int .u32 (n : Int)) ∧ w'.cell? ⟨vb, vo, none⟩ = some (.int .u64 v)) (fun j => j == 13) (by kernel_rfl) ?_ (fun hHeld => ?_)
      · exact ⟨m1, i16, x1, vc⟩
      (refine wpZ_take (i := 0) (oi := ⟨some 183, .move (.tmp 0), 103, _, _, none⟩) (v := ?_) rfl (by kernel_rfl) (fun _ _ _ h => h) (by assumption) (Or.inl ⟨by rfl, ?_⟩) ?_; rotate_left 1; · ((intro w hSw; (try dsimp only at hSw); go_split_ands; go_simp) <;> (try with_reducible rfl)))
      try simp only [Act.put, List.setIfInBounds_toArray, List.set_cons_zero, List.set_cons_succ]
      (refine wpZ_take (i := 1) (oi := ⟨some 184, .nilCheck (.tmp 183), 0, _, _, none⟩) (v := ?_) rfl (by kernel_rfl) (fun _ _ _ h => h) (by assumption) (Or.inl ⟨by rfl, ?_⟩) ?_; rotate_left 1; · ((intro w hSw; (try dsimp only at hSw); go_split_ands; go_simp) <;> (try with_reducible rfl)))
      try simp only [Act.put, List.setIfInBounds_toArray, List.set_cons_zero, List.set_cons_succ]
      (refine wpZ_take (i := 2) (oi := ⟨some 185, .fieldAddr 105 (.tmp 184) 1, 0, _, _, none⟩) (v := ?_) rfl (by kernel_rfl) (fun _ _ _ h => h) (by assumption) (Or.inl ⟨by rfl, ?_⟩) ?_; rotate_left 1; · ((intro w hSw; (try dsimp only at hSw); go_split_ands; go_simp) <;> (try with_reducible rfl)))
      try simp only [Act.put, List.setIfInBounds_toArray, List.set_cons_zero, List.set_cons_succ]
      (refine wpZ_take (i := 3) (oi := ⟨some 186, .load 53 (.tmp 185), 53, _, _, none⟩) (v := ?_) rfl (by kernel_rfl) (fun _ _ _ h => h) (by assumption) (Or.inl ⟨by rfl, ?_⟩) ?_; rotate_left 1; · ((intro w hSw; (try dsimp only at hSw); go_split_ands; go_simp) <;> (try with_reducible rfl)))
      try simp only [Act.put, List.setIfInBounds_toArray, List.set_cons_zero, List.set_cons_succ]
      (refine wpZ_take (i := 4) (oi := ⟨some 187, .nilCheck (.tmp 186), 0, _, _, none⟩) (v := ?_) rfl (by kernel_rfl) (fun _ _ _ h => h) (by assumption) (Or.inl ⟨by rfl, ?_⟩) ?_; rotate_left 1; · ((intro w hSw; (try dsimp only at hSw); go_split_ands; go_simp) <;> (try with_reducible rfl)))
      try simp only [Act.put, List.setIfInBounds_toArray, List.set_cons_zero, List.set_cons_succ]
      (refine wpZ_take (i := 5) (oi := ⟨some 188, .fieldAddr 67 (.tmp 187) 4, 0, _, _, none⟩) (v := ?_) rfl (by kernel_rfl) (fun _ _ _ h => h) (by assumption) (Or.inl ⟨by rfl, ?_⟩) ?_; rotate_left 1; · ((intro w hSw; (try dsimp only at hSw); go_split_ands; go_simp) <;> (try with_reducible rfl)))
      try simp only [Act.put, List.setIfInBounds_toArray, List.set_cons_zero, List.set_cons_succ]
      (refine wpZ_take (i := 6) (oi := ⟨some 189, .load 57 (.tmp 188), 57, _, _, none⟩) (v := ?_) rfl (by kernel_rfl) (fun _ _ _ h => h) (by assumption) (Or.inl ⟨by rfl, ?_⟩) ?_; rotate_left 1; · ((intro w hSw; (try dsimp only at hSw); go_split_ands; go_simp) <;> (try with_reducible rfl)))
      try simp only [Act.put, List.setIfInBounds_toArray, List.set_cons_zero, List.set_cons_succ]
      (refine wpZ_take (i := 7) (oi := ⟨some 190, .fieldAddr 29 (.tmp 3) 1, 0, _, _, none⟩) (v := ?_) rfl (by kernel_rfl) (fun _ _ _ h => h) (by assumption) (Or.inl ⟨by rfl, ?_⟩) ?_; rotate_left 1; · ((intro w hSw; (try dsimp only at hSw); go_split_ands; go_simp) <;> (try with_reducible rfl)))
      try simp only [Act.put, List.setIfInBounds_toArray, List.set_cons_zero, List.set_cons_succ]
      (refine wpZ_take (i := 8) (oi := ⟨some 191, .load 25 (.tmp 190), 25, _, _, none⟩) (v := ?_) rfl (by kernel_rfl) (fun _ _ _ h => h) (by assumption) (Or.inl ⟨by rfl, ?_⟩) ?_; rotate_left 1; · ((intro w hSw; (try dsimp only at hSw); go_split_ands; go_simp) <;> (try with_reducible rfl)))
      try simp only [Act.put, List.setIfInBounds_toArray, List.set_cons_zero, List.set_cons_succ]
      (refine wpZ_take (i := 9) (oi := ⟨some 192, .move (.tmp 10), 57, _, _, none⟩) (v := ?_) rfl (by kernel_rfl) (fun _ _ _ h => h) (by assumption) (Or.inl ⟨by rfl, ?_⟩) ?_; rotate_left 1; · ((intro w hSw; (try dsimp only at hSw); go_split_ands; go_simp) <;> (try with_reducible rfl)))
      try simp only [Act.put, List.setIfInBounds_toArray, List.set_cons_zero, List.set_cons_succ]
      (refine wpZ_take (i := 10) (oi := ⟨some 193, .indexAddr 57 (.tmp 192) (.const (.int .i64 0)), 0, _, _, none⟩) (v := ?_) rfl (by kernel_rfl) (fun _ _ _ h => h) (by assumption) (Or.inl ⟨by rfl, ?_⟩) ?_; rotate_left 1; · ((intro w hSw; (try dsimp only at hSw); go_split_ands; go_simp) <;> (try with_reducible rfl)))
      try simp only [Act.put, List.setIfInBounds_toArray, List.set_cons_zero, List.set_cons_succ]
      (refine wpZ_take (i := 11) (oi := ⟨some 194, .load 26 (.tmp 193), 26, _, _, none⟩) (v := ?_) rfl (by kernel_rfl) (fun _ _ _ h => h) (by assumption) (Or.inl ⟨by rfl, ?_⟩) ?_; rotate_left 1; · ((intro w hSw; (try dsimp only at hSw); go_split_ands; go_simp) <;> (try with_reducible rfl)))
      try simp only [Act.put, List.setIfInBounds_toArray, List.set_cons_zero, List.set_cons_succ]
      (refine wpZ_take (i := 12) (oi := ⟨some 195, .indexAddr 57 (.tmp 189) (.tmp 191), 0, _, _, none⟩) (v := ?_) rfl (by kernel_rfl) (fun _ _ _ h => h) (by assumption) (Or.inl ⟨by rfl, ?_⟩) ?_; rotate_left 1; · ((intro w hSw; (try dsimp only at hSw); go_split_ands; go_simp) <;> (try with_reducible rfl)))
      try simp only [Act.put, List.setIfInBounds_toArray, List.set_cons_zero, List.set_cons_succ]
      refine wpZ_one (i := 13) (oi := ⟨none, .store 26 (.tmp 195) (.tmp 194), 0, _, _, none⟩) rfl (by kernel_rfl) (fun K hK => ?_)
      go_simp
      refine hK.out _ _ (fun h => by simp at h) (fun _ => ?_)
      clear hK K
      try simp only [Act.put, List.setIfInBounds_toArray, List.set_cons_zero, List.set_cons_succ]
      refine wpZ_done (by kernel_rfl) ?_ _
      go_wp2; exact bodyPost_ret (v := .bool true) (by simp [results, Tryz.results44, go_sem]) rfl ⟨rfl, GT.out⟩
    · have D1 := Lib.hid (HS.out false (decide_eq_false (by omega)))
      have HE := Lib.hid (stuck_yes H2.out.1.drew)
      have hCR := HPP.out.2.2
      rw [if_neg hlt] at hCR
      simp only [Prod.mk.injEq] at hCR
      obtain ⟨rfl, rfl⟩ := hCR
      clear HS hlt hge2 H2 HPP
      go_wp2_with fail
      refine wp_region_z (fun w' => w'.cell? ⟨P.mB, 1, none⟩ = some (.pointer (some ⟨P.iB, 0, none⟩)) ∧ w'.cell? ⟨P.iB, 16, none⟩ = some (.slice A2 s.i.glo.length c2) ∧ w'.cell? ⟨xB, 1, none⟩ = some (.int .u32 (n : Int))) (fun j => j == 15 || j == 16 || j == 17) (by kernel_rfl) ?_ (fun hHeld => ?_)
      · first | exact ⟨m1, i16, x1⟩ | exact hHeld
      (refine wpZ_take (i := 0) (oi := ⟨some 153, .move (.tmp 11), 4, _, _, none⟩) (v := ?_) rfl (by kernel_rfl) (fun _ _ _ h => h) (by assumption) (Or.inl ⟨by rfl, ?_⟩) ?_; rotate_left 1; · ((intro w hSw; (try dsimp only at hSw); go_split_ands; go_simp) <;> (try with_reducible rfl)))
      try simp only [Act.put, List.setIfInBounds_toArray, List.set_cons_zero, List.set_cons_succ]
      (refine wpZ_take (i := 1) (oi := ⟨some 154, .move (.tmp 153), 4, _, _, none⟩) (v := ?_) rfl (by kernel_rfl) (fun _ _ _ h => h) (by assumption) (Or.inl ⟨by rfl, ?_⟩) ?_; rotate_left 1; · ((intro w hSw; (try dsimp only at hSw); go_split_ands; go_simp) <;> (try with_reducible rfl)))
      try simp only [Act.put, List.setIfInBounds_toArray, List.set_cons_zero, List.set_cons_succ]
      first | (refine wpZ_take (i := 2) (oi := ⟨some 155, .move (.tmp 0), 103, _, _, some (1, true)⟩) (v := ?_) rfl (by kernel_rfl) (fun _ _ _ h => h) (by assumption) (Or.inl ⟨by rfl, ?_⟩) ?_; rotate_left 1; · ((intro w hSw; (try dsimp only at hSw); go_split_ands; go_simp) <;> (try with_reducible rfl))) | (refine wpZ_take (i := 2) (oi := ⟨some 155, .move (.tmp 0), 103, _, _, some (1, true)⟩) rfl (by kernel_rfl) (fun _ _ _ h => h) (by assumption) (Or.inr ⟨by rfl, rfl⟩) ?_)
      try simp only [Act.put, List.setIfInBounds_toArray, List.set_cons_zero, List.set_cons_succ]
      first | (refine wpZ_take (i := 3) (oi := ⟨some 156, .fieldAddr 29 (.tmp 3) 1, 0, _, _, some (1, true)⟩) (v := ?_) rfl (by kernel_rfl) (fun _ _ _ h => h) (by assumption) (Or.inl ⟨by rfl, ?_⟩) ?_; rotate_left 1; · ((intro w hSw; (try dsimp only at hSw); go_split_ands; go_simp) <;> (try with_reducible rfl))) | (refine wpZ_take (i := 3) (oi := ⟨some 156, .fieldAddr 29 (.tmp 3) 1, 0, _, _, some (1, true)⟩) rfl (by kernel_rfl) (fun _ _ _ h => h) (by assumption) (Or.inr ⟨by rfl, rfl⟩) ?_)
      try simp only [Act.put, List.setIfInBounds_toArray, List.set_cons_zero, List.set_cons_succ]
      first | (refine wpZ_take (i := 4) (oi := ⟨some 157, .load 25 (.tmp 156), 25, _, _, some (1, true)⟩) (v := ?_) rfl (by kernel_rfl) (fun _ _ _ h => h) (by assumption) (Or.inl ⟨by rfl, ?_⟩) ?_; rotate_left 1; · ((intro w hSw; (try dsimp only at hSw); go_split_ands; go_simp) <;> (try with_reducible rfl))) | (refine wpZ_take (i := 4) (oi := ⟨some 157, .load 25 (.tmp 156), 25, _, _, some (1, true)⟩) rfl (by kernel_rfl) (fun _ _ _ h => h) (by assumption) (Or.inr ⟨by rfl, rfl⟩) ?_)
      try simp only [Act.put, List.setIfInBounds_toArray, List.set_cons_zero, List.set_cons_succ]
      first | (refine wpZ_take (i := 5) (oi := ⟨some 158, .move (.tmp 0), 103, _, _, some (1, true)⟩) (v := ?_) rfl (by kernel_rfl) (fun _ _ _ h => h) (by assumption) (Or.inl ⟨by rfl, ?_⟩) ?_; rotate_left 1; · ((intro w hSw; (try dsimp only at hSw); go_split_ands; go_simp) <;> (try with_reducible rfl))) | (refine wpZ_take (i := 5) (oi := ⟨some 158, .move (.tmp 0), 103, _, _, some (1, true)⟩) rfl (by kernel_rfl) (fun _ _ _ h => h) (by assumption) (Or.inr ⟨by rfl, rfl⟩) ?_)
      try simp only [Act.put, List.setIfInBounds_toArray, List.set_cons_zero, List.set_cons_succ]
      first | (refine wpZ_take (i := 6) (oi := ⟨some 159, .nilCheck (.tmp 158), 0, _, _, some (1, true)⟩) (v := ?_) rfl (by kernel_rfl) (fun _ _ _ h => h) (by assumption) (Or.inl ⟨by rfl, ?_⟩) ?_; rotate_left 1; · ((intro w hSw; (try dsimp only at hSw); go_split_ands; go_simp) <;> (try with_reducible rfl))) | (refine wpZ_take (i := 6) (oi := ⟨some 159, .nilCheck (.tmp 158), 0, _, _, some (1, true)⟩) rfl (by kernel_rfl) (fun _ _ _ h => h) (by assumption) (Or.inr ⟨by rfl, rfl⟩) ?_)
      try simp only [Act.put, List.setIfInBounds_toArray, List.set_cons_zero, List.set_cons_succ]
      first | (refine wpZ_take (i := 7) (oi := ⟨some 160, .fieldAddr 105 (.tmp 159) 1, 0, _, _, some (1, true)⟩) (v := ?_) rfl (by kernel_rfl) (fun _ _ _ h => h) (by assumption) (Or.inl ⟨by rfl, ?_⟩) ?_; rotate_left 1; · ((intro w hSw; (try dsimp only at hSw); go_split_ands; go_simp) <;> (try with_reducible rfl))) | (refine wpZ_take (i := 7) (oi := ⟨some 160, .fieldAddr 105 (.tmp 159) 1, 0, _, _, some (1, true)⟩) rfl (by kernel_rfl) (fun _ _ _ h => h) (by assumption) (Or.inr ⟨by rfl, rfl⟩) ?_)
      try simp only [Act.put, List.setIfInBounds_toArray, List.set_cons_zero, List.set_cons_succ]
      first | (refine wpZ_take (i := 8) (oi := ⟨some 161, .load 53 (.tmp 160), 53, _, _, some (1, true)⟩) (v := ?_) rfl (by kernel_rfl) (fun _ _ _ h => h) (by assumption) (Or.inl ⟨by rfl, ?_⟩) ?_; rotate_left 1; · ((intro w hSw; (try dsimp only at hSw); go_split_ands; go_simp) <;> (try with_reducible rfl))) | (refine wpZ_take (i := 8) (oi := ⟨some 161, .load 53 (.tmp 160), 53, _, _, some (1, true)⟩) rfl (by kernel_rfl) (fun _ _ _ h => h) (by assumption) (Or.inr ⟨by rfl, rfl⟩) ?_)
      try simp only [Act.put, List.setIfInBounds_toArray, List.set_cons_zero, List.set_cons_succ]
      first | (refine wpZ_take (i := 9) (oi := ⟨some 162, .nilCheck (.tmp 161), 0, _, _, some (1, true)⟩) (v := ?_) rfl (by kernel_rfl) (fun _ _ _ h => h) (by assumption) (Or.inl ⟨by rfl, ?_⟩) ?_; rotate_left 1; · ((intro w hSw; (try dsimp only at hSw); go_split_ands; go_simp) <;> (try with_reducible rfl))) | (refine wpZ_take (i := 9) (oi := ⟨some 162, .nilCheck (.tmp 161), 0, _, _, some (1, true)⟩) rfl (by kernel_rfl) (fun _ _ _ h => h) (by assumption) (Or.inr ⟨by rfl, rfl⟩) ?_)
      try simp only [Act.put, List.setIfInBounds_toArray, List.set_cons_zero, List.set_cons_succ]
      first | (refine wpZ_take (i := 10) (oi := ⟨some 163, .fieldAddr 67 (.tmp 162) 4, 0, _, _, some (1, true)⟩) (v := ?_) rfl (by kernel_rfl) (fun _ _ _ h => h) (by assumption) (Or.inl ⟨by rfl, ?_⟩) ?_; rotate_left 1; · ((intro w hSw; (try dsimp only at hSw); go_split_ands; go_simp) <;> (try with_reducible rfl))) | (refine wpZ_take (i := 10) (oi := ⟨some 163, .fieldAddr 67 (.tmp 162) 4, 0, _, _, some (1, true)⟩) rfl (by kernel_rfl) (fun _ _ _ h => h) (by assumption) (Or.inr ⟨by rfl, rfl⟩) ?_)
      try simp only [Act.put, List.setIfInBounds_toArray, List.set_cons_zero, List.set_cons_succ]
      first | (refine wpZ_take (i := 11) (oi := ⟨some 164, .load 57 (.tmp 163), 57, _, _, some (1, true)⟩) (v := ?_) rfl (by kernel_rfl) (fun _ _ _ h => h) (by assumption) (Or.inl ⟨by rfl, ?_⟩) ?_; rotate_left 1; · ((intro w hSw; (try dsimp only at hSw); go_split_ands; go_simp) <;> (try with_reducible rfl))) | (refine wpZ_take (i := 11) (oi := ⟨some 164, .load 57 (.tmp 163), 57, _, _, some (1, true)⟩) rfl (by kernel_rfl) (fun _ _ _ h => h) (by assumption) (Or.inr ⟨by rfl, rfl⟩) ?_)
      try simp only [Act.put, List.setIfInBounds_toArray, List.set_cons_zero, List.set_cons_succ]
      first | (refine wpZ_take (i := 12) (oi := ⟨some 165, .call { callee := .builtin .len, args := #[.tmp 164], argTypes := #[57] }, 3, _, _, some (1, true)⟩) (v := ?_) rfl (by kernel_rfl) (fun _ _ _ h => h) (by assumption) (Or.inl ⟨by rfl, ?_⟩) ?_; rotate_left 1; · ((intro w hSw; (try dsimp only at hSw); go_split_ands; go_simp) <;> (try with_reducible rfl))) | (refine wpZ_take (i := 12) (oi := ⟨some 165, .call { callee := .builtin .len, args := #[.tmp 164], argTypes := #[57] }, 3, _, _, some (1, true)⟩) rfl (by kernel_rfl) (fun _ _ _ h => h) (by assumption) (Or.inr ⟨by rfl, rfl⟩) ?_)
      try simp only [Act.put, List.setIfInBounds_toArray, List.set_cons_zero, List.set_cons_succ]
      refine wpZ_one (i := 13) (oi := ⟨some 166, .call { callee := .value (.func 72), args := #[.tmp 157, .tmp 165], argTypes := #[25, 3] }, 4, _, _, some (1, true)⟩) rfl (by kernel_rfl) (fun K hK => ?_)
      go_simp; refine (D1.out _).mono ?_; rintro e w3 ⟨rfl, rfl⟩; go_wp2_with fail
      refine hK.out _ _ (fun _ => by (first | exact ⟨m1, i16, x1⟩ | exact hHeld)) (fun hh => ?_)
      have hHeld := hh rfl
      clear hK K
      try simp only [Act.put, List.setIfInBounds_toArray, List.set_cons_zero, List.set_cons_succ]
      first | (refine wpZ_take (i := 14) (oi := ⟨some 167, .unOp .not 4 (.tmp 166), 4, _, _, some (1, true)⟩) (v := ?_) rfl (by kernel_rfl) (fun _ _ _ h => h) (by assumption) (Or.inl ⟨by rfl, ?_⟩) ?_; rotate_left 1; · ((intro w hSw; (try dsimp only at hSw); go_split_ands; go_simp) <;> (try with_reducible rfl))) | (refine wpZ_take (i := 14) (oi := ⟨some 167, .unOp .not 4 (.tmp 166), 4, _, _, some (1, true)⟩) rfl (by kernel_rfl) (fun _ _ _ h => h) (by assumption) (Or.inr ⟨by rfl, rfl⟩) ?_)
      try simp only [Act.put, List.setIfInBounds_toArray, List.set_cons_zero, List.set_cons_succ]
      refine wpZ_one (i := 15) (oi := ⟨some 168, .call { callee := .value (.func 39), args := #[.tmp 155, .tmp 167], argTypes := #[103, 4] }, 4, _, _, some (1, true)⟩) rfl (by kernel_rfl) (fun K hK => ?_)
      go_simp; refine HE.out.mono ?_; rintro e w3 ⟨rfl, ht⟩; have HT := Lib.hid (To.trans ROK.out.1 ROK.out.2.1 ROK.out.2.2.1 (To.undrew (n := 1) ht)); clear ht; go_wp2_with fail
      refine hK.out _ _ (fun h => by simp at h) (fun _ => ?_)
      clear hK K
      try simp only [Act.put, List.setIfInBounds_toArray, List.set_cons_zero, List.set_cons_succ]
      refine wpZ_one (i := 16) (oi := ⟨some 169, .unOp .not 4 (.tmp 168), 4, _, _, some (1, true)⟩) rfl (by kernel_rfl) (fun K hK => ?_)
      go_simp
      refine hK.out _ _ (fun h => by simp at h) (fun _ => ?_)
      clear hK K
      try simp only [Act.put, List.setIfInBounds_toArray, List.set_cons_zero, List.set_cons_succ]
      refine wpZ_one (i := 17) (oi := ⟨some 170, .pick (.tmp 154) (.tmp 169) (.const (.bool false)), 4, _, _, none⟩) rfl (by kernel_rfl) (fun K hK => ?_)
      go_simp
      refine hK.out _ _ (fun h => by simp at h) (fun _ => ?_)
      clear hK K
      try simp only [Act.put, List.setIfInBounds_toArray, List.set_cons_zero, List.set_cons_succ]
      refine wpZ_done (by kernel_rfl) ?_ _
      go_wp2; exact bodyPost_ret (v := .bool true) (by simp [results, Tryz.results44, go_sem]) rfl ⟨rfl, HT.out⟩
end Go.Proofs.YtmnebeikafigjaaGreatDoor
