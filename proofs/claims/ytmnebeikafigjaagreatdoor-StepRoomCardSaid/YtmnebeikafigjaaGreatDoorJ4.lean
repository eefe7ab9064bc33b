/- Lemmas of the walk, part 4. -/
import Derived.Test.YtmnebeikafigjaaGreatDoorJ3
/- step's machine: control's br_if and br_table. -/
set_option linter.unusedVariables false
namespace Go.Proofs.YtmnebeikafigjaaGreatDoor
open Go.RowKit Go.Sep Go.St
variable {w : World} {S : Nat → Prop} {L : Key → Option Ck} {u : Nat} {P : Ptrs} {M : Mo} {s : Ms}
theorem low_wrap (v : Int) : IntKind.u32.wrap v = lowI v := by unfold lowI; rw [IntKind.wrap]; simp [IntKind.signed, IntKind.bits]
/-- One value popped. -/
theorem pop1 {l : List Int} {C C1 : Cf} (hp : popsC C 1 = some (l, C1)) (hU : U64 C.st) : ∃ v, l = [v] ∧ (0 ≤ v ∧ v < 18446744073709551616) ∧ C1.frs = C.frs ∧ C1.st.length ≤ C.st.length ∧ U64 C1.st := by
  obtain ⟨_, hl1, hl2, hC1⟩ := popsC_some hp
  have hl : l.length = 1 := by rw [hl2, List.length_drop]; have : (1 : Int).toNat = 1 := rfl; omega
  obtain ⟨v, rfl⟩ : ∃ v, l = [v] := by
    match l, hl with
    | [v], _ => exact ⟨v, rfl⟩
  refine ⟨v, rfl, hU v (List.mem_of_mem_drop (hl2 ▸ List.mem_singleton.2 rfl)), by rw [hC1], by rw [hC1]; simp only [List.length_take]; omega, ?_⟩
  rw [hC1]
  exact fun x hx => hU x (List.mem_of_mem_take hx)
/-- The popped value's cell. -/
theorem pop1_cell {w' : World} {S' : Nat → Prop} {B : Option Addr} {n c : Nat} {v : Int} (h : RdL w' S' 1 (num1 .u64) (.slice B n c) [v]) : n = 1 ∧ ∃ vb vo, B = some ⟨vb, vo, none⟩ ∧ w'.cell? ⟨vb, vo, none⟩ = some (.int .u64 v) := by
  obtain ⟨vb, vo, vv1, rfl, _, hvv, vc⟩ := h.get1 0 v rfl
  have hvv : [vv1] = [.int .u64 v] := hvv
  obtain rfl : vv1 = .int .u64 v := by simpa using hvv
  obtain ⟨A', c', e, _⟩ := h
  cases e
  exact ⟨rfl, vb, vo, rfl, vc⟩
set_option maxRecDepth 100000 in
set_option maxHeartbeats 1000000 in
theorem control_brif (h : Md w S L u P M s) {k fB fc : Nat} {f : Fr} {sv vv lv bv : Value} {raws : List (Value × Value)} (hf : Frm w L u P s k f fB fc sv vv raws lv bv) (pre : Pre M s.i s.c k f) (x : Ins) (xl : Value) (hx : Ins.wf x) (at_ : Int) (hop : x.op = 13) (r : Cf) (hr : controlC M s.i s.c f x at_ = some r) :
    Calls Tryz.prog 43 #[.pointer (some ⟨P.mB, 0, none⟩), insV x xl, .int .i64 at_] w (CtlR w S L u P M s (some r)) := by
  unfold controlC at hr
  simp [hop] at hr
  obtain ⟨cd, hcd⟩ := pre.code
  obtain ⟨n, hn⟩ := Int.eq_ofNat_of_zero_le hx.a.1
  have hn2 : n < 4294967296 := by have := hx.a.2; omega
  have HP := Lib.hid (fun (w' : World) (q : Still w w') => pops_c (h.holds q) 1 (by omega) pre.st _ rfl)
  have HR := Lib.hid (fun (w' : World) (q : Still w w') => (q.ro h.sep.lt))
  unfold insV at *
  cases hp : popsC s.c 1 with
  | none =>
    rw [hp] at hr HP
    simp only at hr
    rw [← hr]
    clear h hf pre hx hcd hr hp hn hn2
    go_enter Tryz.func43, Tryz.ntmps43
    go_wp2_with fail
    refine (HP.out _ ((Still.refl w).alloc _)).mono ?_
    rintro e w1 ⟨rfl, ht⟩
    have HT := Lib.hid (To.trans (Keep.refl _ _) (HR.out _ ((Still.refl w).alloc _)) (fun _ h => .inl h) ht)
    clear ht
    go_wp2
    exact bodyPost_ret (v := .bool true) (by simp [results, Tryz.results43, go_sem]) rfl ⟨rfl, HT.out⟩
  | some p =>
    obtain ⟨l, C1⟩ := p
    rw [hp] at hr HP
    obtain ⟨v, rfl, hv, hfrs, hst, hU⟩ := pop1 hp pre.u
    have hr : (if lowI v = 0 then C1 else branchC M C1 f x.a) = r := hr
    have hu := low_wrap v
    have HH := Lib.hid (And.intro hf (And.intro pre (And.intro hfrs (And.intro (Nat.le_trans hst pre.st) (And.intro hcd (And.intro hn2 hn))))))
    have HRR := Lib.hid hr
    clear h hf pre hx hcd hr hp hn hn2 hv hfrs hst hU
    go_enter Tryz.func43, Tryz.ntmps43
    go_wp2_with fail
    have Q := Lib.hid ((Still.refl w).alloc (.cells #[.int .i64 x.op, .int .u32 x.a, .int .u32 x.b, .int .u64 x.n, xl, .int .i64 x.t] 29))
    have x1 : (w.alloc (.cells #[.int .i64 x.op, .int .u32 x.a, .int .u32 x.b, .int .u64 x.n, xl, .int .i64 x.t] 29)).cell? ⟨w.heap.size, 1, none⟩ = some (.int .u32 x.a) := by simp
    rw [hop] at Q x1
    generalize (w.alloc (.cells #[.int .i64 13, .int .u32 x.a, .int .u32 x.b, .int .u64 x.n, xl, .int .i64 x.t] 29)) = w1 at *
    refine (HP.out _ Q.out).mono ?_
    rintro e w2 ⟨B, n4, c4', rfl, S2, L2, h2, k2, ro2, hS2, rd2, sf2⟩
    obtain ⟨rfl, vb, vo, rfl, vc⟩ := pop1_cell rd2
    obtain ⟨hf, pre, hfrs, hst, hcd, hn2, hn⟩ := HH.out
    obtain ⟨sv2, vv2, raws2, hf2⟩ := Frm.same hf h2 sf2 hfrs pre.len
    replace x1 : w2.cell? ⟨w.heap.size, 1, none⟩ = some (.int .u32 x.a) := (World.cell?_of_block (a := ⟨w.heap.size, 1, none⟩) (ro2.2 w.heap.size (.inr ⟨Nat.le_refl _, World.block_lt_of_cell? w1 _ x1⟩))).trans x1
    have ROK := Lib.hid (And.intro k2 (And.intro ((HR.out _ Q.out).trans ro2 (fun _ h => .inl h)) (fun b (hb : S b) => hS2 b (.inl hb))))
    have HBR := Lib.hid (branches_c h2 hf2 ((congrArg List.length hfrs).trans pre.len) pre.k pre.ok cd hcd hst n hn2)
    rw [← hn] at HBR
    have HNOP := Lib.hid (To.refl h2)
    clear hf pre hfrs hst hcd hn2 hn h2 hf2 k2 ro2 hS2 rd2 sf2 HH HP HR Q
    generalize w.heap.size = xB at *
    by_cases hl0 : lowI v = 0
    · have dl : (lowI v != 0) = false := by rw [hl0]; rfl
      have hr := HRR.out
      rw [if_pos hl0] at hr
      subst hr
      clear hl0 HRR
      go_wp2
      exact bodyPost_ret (v := .bool true) (by simp [results, Tryz.results43, go_sem]) rfl ⟨rfl, To.trans ROK.out.1 ROK.out.2.1 ROK.out.2.2 HNOP.out⟩
    · have dl : (lowI v != 0) = true := by simp [hl0]
      have hr := HRR.out
      rw [if_neg hl0] at hr
      subst hr
      clear hl0 HRR
      go_wp2_with fail
      refine HBR.out.mono ?_
      rintro e w3 ⟨rfl, ht⟩
      have HT := Lib.hid (To.trans ROK.out.1 ROK.out.2.1 ROK.out.2.2 ht)
      clear ht
      go_wp2
      exact bodyPost_ret (v := .bool true) (by simp [results, Tryz.results43, go_sem]) rfl ⟨rfl, HT.out⟩
theorem low_nat (v : Int) : ∃ m : Nat, lowI v = (m : Int) ∧ m < 4294967296 := by
  refine ⟨(lowI v).toNat, ?_, ?_⟩ <;> unfold lowI <;> omega
set_option maxRecDepth 100000 in
set_option maxHeartbeats 1000000 in
theorem control_brtab (h : Md w S L u P M s) {k fB fc : Nat} {f : Fr} {sv vv lv bv : Value} {raws : List (Value × Value)} (hf : Frm w L u P s k f fB fc sv vv raws lv bv) (pre : Pre M s.i s.c k f) (x : Ins) (xl : Value) (hx : Ins.wf x) (hxl : RdL w S 1 (num1 .u32) xl x.l) (at_ : Int) (hop : x.op = 14) (r : Cf) (hr : controlC M s.i s.c f x at_ = some r) :
    Calls Tryz.prog 43 #[.pointer (some ⟨P.mB, 0, none⟩), insV x xl, .int .i64 at_] w (CtlR w S L u P M s (some r)) := by
  unfold controlC at hr
  simp [hop] at hr
  obtain ⟨cd, hcd⟩ := pre.code
  obtain ⟨n, hn⟩ := Int.eq_ofNat_of_zero_le hx.a.1
  have hn2 : n < 4294967296 := by have := hx.a.2; omega
  have HP := Lib.hid (fun (w' : World) (q : Still w w') => pops_c (h.holds q) 1 (by omega) pre.st _ rfl)
  have HR := Lib.hid (fun (w' : World) (q : Still w w') => (q.ro h.sep.lt))
  have hxl' := hxl
  obtain ⟨lA, lc, rfl, ql⟩ := hxl
  clear ql
  unfold insV at *
  cases hp : popsC s.c 1 with
  | none =>
    rw [hp] at hr HP
    simp only at hr
    rw [← hr]
    clear h hf pre hx hcd hr hp hn hn2 hxl'
    go_enter Tryz.func43, Tryz.ntmps43
    go_wp2_with fail
    refine (HP.out _ ((Still.refl w).alloc _)).mono ?_
    rintro e w1 ⟨rfl, ht⟩
    have HT := Lib.hid (To.trans (Keep.refl _ _) (HR.out _ ((Still.refl w).alloc _)) (fun _ h => .inl h) ht)
    clear ht
    go_wp2
    exact bodyPost_ret (v := .bool true) (by simp [results, Tryz.results43, go_sem]) rfl ⟨rfl, HT.out⟩
  | some p =>
    obtain ⟨l, C1⟩ := p
    rw [hp] at hr HP
    obtain ⟨v, rfl, hv, hfrs, hst, hU⟩ := pop1 hp pre.u
    have hr : branchC M C1 f (tableTo x v) = r := hr
    obtain ⟨m, hm, hm2⟩ := low_nat v
    have hu := low_wrap v
    rw [hm] at hu
    have HH := Lib.hid (And.intro hf (And.intro pre (And.intro hfrs (And.intro (Nat.le_trans hst pre.st) (And.intro hcd (And.intro hn2 (And.intro hn (And.intro hm hx))))))))
    have HS := Lib.hid (fun (b : Bool) (hb : decide ((m : Int) < (x.l.length : Int)) = b) (w' : World) => has_c (m : Int) x.l.length b (by omega) (by omega) (by have := hx.ll; unfold maxLen; omega) hb w')
    have HRR := Lib.hid hr
    have HXL := Lib.hid hxl'
    clear h hf pre hx hcd hr hp hn hn2 hv hfrs hst hU hm hxl'
    go_enter Tryz.func43, Tryz.ntmps43
    go_wp2_with fail
    have Q := Lib.hid ((Still.refl w).alloc (.cells #[.int .i64 x.op, .int .u32 x.a, .int .u32 x.b, .int .u64 x.n, .slice lA x.l.length lc, .int .i64 x.t] 29))
    have x1 : (w.alloc (.cells #[.int .i64 x.op, .int .u32 x.a, .int .u32 x.b, .int .u64 x.n, .slice lA x.l.length lc, .int .i64 x.t] 29)).cell? ⟨w.heap.size, 1, none⟩ = some (.int .u32 x.a) := by simp
    have x4 : (w.alloc (.cells #[.int .i64 x.op, .int .u32 x.a, .int .u32 x.b, .int .u64 x.n, .slice lA x.l.length lc, .int .i64 x.t] 29)).cell? ⟨w.heap.size, 4, none⟩ = some (.slice lA x.l.length lc) := by simp
    rw [hop] at Q x1 x4
    generalize (w.alloc (.cells #[.int .i64 14, .int .u32 x.a, .int .u32 x.b, .int .u64 x.n, .slice lA x.l.length lc, .int .i64 x.t] 29)) = w1 at *
    refine (HP.out _ Q.out).mono ?_
    rintro e w2 ⟨B, n4, c4', rfl, S2, L2, h2, k2, ro2, hS2, rd2, sf2⟩
    obtain ⟨rfl, vb, vo, rfl, vc⟩ := pop1_cell rd2
    obtain ⟨hf, pre, hfrs, hst, hcd, hn2, hn, hm, hx⟩ := HH.out
    obtain ⟨sv2, vv2, raws2, hf2⟩ := Frm.same hf h2 sf2 hfrs pre.len
    replace x1 : w2.cell? ⟨w.heap.size, 1, none⟩ = some (.int .u32 x.a) := (World.cell?_of_block (a := ⟨w.heap.size, 1, none⟩) (ro2.2 w.heap.size (.inr ⟨Nat.le_refl _, World.block_lt_of_cell? w1 _ x1⟩))).trans x1
    replace x4 : w2.cell? ⟨w.heap.size, 4, none⟩ = some (.slice lA x.l.length lc) := (World.cell?_of_block (a := ⟨w.heap.size, 4, none⟩) (ro2.2 w.heap.size (.inr ⟨Nat.le_refl _, World.block_lt_of_cell? w1 _ x4⟩))).trans x4
    have ROK := Lib.hid (And.intro k2 (And.intro ((HR.out _ Q.out).trans ro2 (fun _ h => .inl h)) (fun b (hb : S b) => hS2 b (.inl hb))))
    have HBR := Lib.hid (fun (n : Nat) (hn2 : n < 4294967296) (w' : World) (q : Still w2 w') => branches_c (h2.still q) (hf2.still q) ((congrArg List.length hfrs).trans pre.len) pre.k pre.ok cd hcd hst n hn2)
    have HR2 := Lib.hid (fun (w' : World) (q : Still w2 w') => (q.ro h2.sep.lt))
    have HN := Lib.hid (And.intro hn hn2)
    have HM := Lib.hid hm
    have HLB := Lib.hid hx.l
    have hxl2 := HXL.out.mono ROK.out.2.1 (fun b hb => hS2 b (.inl hb)) (fun _ _ h => h)
    by_cases hlt : m < x.l.length
    · obtain ⟨y, hy⟩ : ∃ y, x.l[m]? = some y := ⟨_, List.getElem?_eq_getElem hlt⟩
      obtain ⟨b, o, yv, rfl, _, hyv, yc⟩ := hxl2.get1 m y hy
      have hyv : [yv] = [.int .u32 y] := hyv
      obtain rfl : yv = .int .u32 y := by simpa using hyv
      obtain ⟨yn, hyn⟩ := Int.eq_ofNat_of_zero_le (hx.l y (List.mem_of_getElem? hy)).1
      have hyn2 : yn < 4294967296 := by have := (hx.l y (List.mem_of_getElem? hy)).2; omega
      have d1 := HS.out true (decide_eq_true (by omega))
      have HB := Lib.hid (HBR.out yn hyn2)
      have g0 : (0 : Int) ≤ (m : Int) := by omega
      have g1 : (m : Int) < (x.l.length : Int) := by omega
      have hr := HRR.out
      rw [show tableTo x v = y from by unfold tableTo; rw [hm, Int.toNat_natCast, hy]] at hr
      subst hr
      rw [← hyn] at HB
      have D1 := Lib.hid d1
      clear hf pre hfrs hst hcd hn2 hn h2 hf2 k2 ro2 hS2 rd2 sf2 HH HP HR Q HS d1 hxl2 HRR hyn hyn2 hyv hy hlt hm hx HBR HM HLB HN HXL
      generalize w.heap.size = xB at *
      go_wp2_with fail
      go_quiet ((go_at_call 72; (with_reducible exact Calls.quiet_of_same (D1.out _))))
      go_wp2_with fail
      go_quiet (fail)
      go_wp2_with fail
      refine (HB.out _ ((Still.refl w2).drewN _)).mono ?_
      rintro e w3 ⟨rfl, ht⟩
      have HT := Lib.hid (To.trans ROK.out.1 ROK.out.2.1 ROK.out.2.2 (To.undrew ht))
      clear ht
      go_wp2
      exact bodyPost_ret (v := .bool true) (by simp [results, Tryz.results43, go_sem]) rfl ⟨rfl, HT.out⟩
    · have d1 := HS.out false (decide_eq_false (by omega))
      have HB := Lib.hid (HBR.out n hn2)
      have hr := HRR.out
      rw [show tableTo x v = x.a from by unfold tableTo; rw [hm, Int.toNat_natCast, List.getElem?_eq_none (by omega)]] at hr
      subst hr
      rw [← hn] at HB
      have D1 := Lib.hid d1
      clear hf pre hfrs hst hcd hn2 hn h2 hf2 k2 ro2 hS2 rd2 sf2 HH HP HR Q HS d1 hxl2 HRR hlt hm hx HBR HM HLB HN HXL
      generalize w.heap.size = xB at *
      go_wp2_with fail
      go_quiet ((go_at_call 72; (with_reducible exact Calls.quiet_of_same (D1.out _))))
      go_wp2_with fail
      refine (HB.out _ ((Still.refl w2).drewN _)).mono ?_
      rintro e w3 ⟨rfl, ht⟩
      have HT := Lib.hid (To.trans ROK.out.1 ROK.out.2.1 ROK.out.2.2 (To.undrew ht))
      clear ht
      go_wp2
      exact bodyPost_ret (v := .bool true) (by simp [results, Tryz.results43, go_sem]) rfl ⟨rfl, HT.out⟩
/-- control, told by controlC. -/
theorem control_c (h : Md w S L u P M s) {k fB fc : Nat} {f : Fr} {sv vv lv bv : Value} {raws : List (Value × Value)} (hf : Frm w L u P s k f fB fc sv vv raws lv bv) (pre : Pre M s.i s.c k f) (x : Ins) (xl : Value) (hx : Ins.wf x) (hxl : RdL w S 1 (num1 .u32) xl x.l) (hni : x.op ≠ 17) (at_ : Int) (hat : 0 ≤ at_ ∧ at_ ≤ 9223372036854775807) (r : Option Cf) (hr : controlC M s.i s.c f x at_ = r) :
    Calls Tryz.prog 43 #[.pointer (some ⟨P.mB, 0, none⟩), insV x xl, .int .i64 at_] w (CtlR w S L u P M s r) := by
  cases r with
  | none => exact control_no h f x xl at_ hr hni
  | some C1 =>
    by_cases h0 : x.op = 0
    · exact control_end h hf pre x xl hx at_ h0 C1 hr
    by_cases h1 : x.op = 1
    · obtain rfl : s.c = C1 := by simp [controlC, h1] at hr; exact hr
      exact control_nop h x xl at_ h1
    by_cases h2 : x.op = 2
    · exact control_in2 h hf pre x xl hx at_ hat h2 C1 hr
    by_cases h3 : x.op = 3
    · exact control_in3 h hf pre x xl hx at_ hat h3 C1 hr
    by_cases h4 : x.op = 4
    · exact control_in4 h hf pre x xl hx at_ hat h4 C1 hr
    by_cases h5 : x.op = 5
    · exact control_skip h hf pre x xl hx at_ h5 C1 hr
    by_cases h11 : x.op = 11
    · exact control_close h hf pre x xl hx at_ h11 C1 hr
    by_cases h12 : x.op = 12
    · exact control_br h hf pre x xl hx at_ h12 C1 hr
    by_cases h13 : x.op = 13
    · exact control_brif h hf pre x xl hx at_ h13 C1 hr
    by_cases h14 : x.op = 14
    · exact control_brtab h hf pre x xl hx hxl at_ h14 C1 hr
    by_cases h15 : x.op = 15
    · exact control_ret h hf pre x xl hx at_ h15 C1 hr
    by_cases h16 : x.op = 16
    · exact control_call h hf pre x xl hx at_ h16 C1 hr
    simp [controlC, h0, h1, h2, h3, h4, h5, h11, h12, h13, h14, h15, h16] at hr
end Go.Proofs.YtmnebeikafigjaaGreatDoor
/- step's machine: places: pushes. -/
set_option linter.unusedVariables false
namespace Go.Proofs.YtmnebeikafigjaaGreatDoor
open Go.RowKit Go.Sep Go.St
variable {w : World} {S : Nat → Prop} {L : Key → Option Ck} {u : Nat} {P : Ptrs} {M : Mo} {s : Ms}
def pushI (C : Cf) (v : Int) : Cf := { C with st := C.st ++ [v] }
theorem rd_one (W : World) (v : Int) : Rd (W.alloc (.cells #[.int .u64 v] 26)) 1 (some ⟨W.heap.size, 0, none⟩) 1 (ints .u64 [v]) := by
  refine ⟨rfl, fun _ => ⟨_, rfl, rfl, fun j x hv => ?_⟩⟩
  rw [show (Addr.mk W.heap.size 0 none).add j = ⟨W.heap.size, j, none⟩ by unfold Addr.add; split <;> simp_all]
  simpa [ints] using hv
theorem push1_c (h : Md w S L u P M s) (v : Int) (hb : s.c.st.length ≤ 999999999) :
    Calls Tryz.prog 81 #[.pointer (some ⟨P.mB, 0, none⟩), .slice (some ⟨w.heap.size, 0, none⟩) 1 1] (w.alloc (.cells #[.int .u64 v] 26)) fun e w' => e = .returned (.tuple #[]) ∧ To w S L u P M w' { s with c := pushI s.c v } := by
  refine (push_c (h.still ((Still.refl w).alloc _)) _ 1 1 [v] (rd_one w v) (by simp; omega)).mono ?_
  rintro e w' ⟨rfl, ht⟩
  exact ⟨rfl, To.trans (Keep.refl _ _) (((Still.refl w).alloc _).ro h.sep.lt) (fun _ h => h) ht⟩
theorem flat_same {α β : Type} (g : α → List β) : ∀ (l : List α) (k : Nat) (x y : α), l[k]? = some x → g y = g x → l.flatMap g = (l.set k y).flatMap g
  | [], k, x, y, h, e => by simp at h
  | z :: r, 0, x, y, h, e => by
    simp at h
    subst h
    rw [List.set_cons_zero, List.flatMap_cons, List.flatMap_cons, e]
  | z :: r, k + 1, x, y, h, e => by
    rw [List.set_cons_succ, List.flatMap_cons, List.flatMap_cons, flat_same g r k x y (by simpa using h) e]
/-- A local of the last frame is set. -/
theorem loc_set {k fB fc : Nat} {f : Fr} {sv vv lv bv : Value} {raws : List (Value × Value)} (h : Md w S L u P M s) (hf : Frm w L u P s k f fB fc sv vv raws lv bv) (hk : s.c.frs.length = k + 1) (a : Nat) (ha : a < f.loc.length) (v : Int) :
    ∃ g c, lv = .slice (some ⟨g, 0, none⟩) f.loc.length c ∧ w.cell? ⟨g, a, none⟩ = some (.int .u64 (f.loc[a]'ha)) ∧ w.frozen? ⟨g, a, none⟩ = false ∧ To w S L u P M (w.setCell ⟨g, a, none⟩ (.int .u64 v)) { s with c := setTop s.c { f with loc := f.loc.set a v } } := by
  have hr := h.sep.holds _ _ hf.loc
  have hr' : Row w 26 1 lv (ints .u64 f.loc) := hr
  obtain ⟨A, n, c, rfl, h1, h2, h3, h4, h5⟩ := hr
  rw [ints_len, Nat.mul_one] at h1
  subst h1
  obtain ⟨g, cur, rfl, hg, hcs, ht⟩ := h5 (by omega)
  have hc := Row.cell hr' (by omega) a (.int .u64 (f.loc[a]'ha)) (ints_get _ _ _ _ (List.getElem?_eq_getElem ha))
  obtain ⟨r1, g1⟩ := Row.set hr' a (by rw [ints_len]; exact ha) (.int .u64 v)
  have hset : (ints .u64 f.loc).set a (.int .u64 v) = ints .u64 (f.loc.set a v) := by simp [ints, List.map_set]
  rw [hset] at r1
  obtain ⟨s1, ro1⟩ := h.sep.grow hf.loc r1 g1 (.inl rfl)
  refine ⟨g, c, rfl, hc.1, hc.2, S, _, h.recfg s1 ro1 (fun _ h => h) ⟨.slice (some ⟨fB, 0, none⟩) (k + 1) fc, sv, vv, ?_, ⟨raws, ?_, ?_, fun k' f1 r1 x y => ?_⟩, ?_, ?_⟩ (cf_upd (fun _ _ => rfl) rfl), (Keep.refl u L).upd rfl, ro1, fun _ h => h⟩
  · rw [upd_other _ _ (by simp)]; exact hf.cfg
  · rw [hf.len]; simp [setTop]
  · rw [upd_other _ _ (by simp), hf.fr]
    congr 2
    have hz : (s.c.frs.zip raws)[k]? = some (f, .slice (some ⟨g, 0, none⟩) f.loc.length c, bv) := (List.getElem?_zip_eq_some (z := (f, _, bv))).2 ⟨hf.top, hf.raw⟩
    have e1 : (setTop s.c { f with loc := f.loc.set a v }).frs.zip raws = (s.c.frs.zip raws).set k ({ f with loc := f.loc.set a v }, .slice (some ⟨g, 0, none⟩) f.loc.length c, bv) := by
      simp only [setTop, hk, Nat.add_sub_cancel]
      rw [zip_set, List.set_getElem?_self' hf.raw]
    rw [e1]
    exact flat_same frG _ k _ _ hz rfl
  · have x : (s.c.frs.set (s.c.frs.length - 1) { f with loc := f.loc.set a v })[k']? = some f1 := x
    rw [hk, Nat.add_sub_cancel, List.getElem?_set] at x
    by_cases e : k = k'
    · subst e
      rw [if_pos rfl, if_pos (by omega)] at x
      rw [hf.raw] at y
      cases x
      cases y
      exact ⟨upd_same _ _ _, by rw [upd_other _ _ (by simp)]; exact hf.lab⟩
    · rw [if_neg e] at x
      obtain ⟨a1, b1⟩ := hf.all k' f1 r1 x y
      exact ⟨by rw [upd_other _ _ (by simp; exact fun h => e h.symm)]; exact a1, by rw [upd_other _ _ (by simp)]; exact b1⟩
  · rw [upd_other _ _ (by simp)]; exact hf.st
  · rw [upd_other _ _ (by simp)]; exact hf.va
/-- A global is set. -/
theorem glo_set (h : Md w S L u P M s) (a : Nat) (ha : a < s.i.glo.length) (v : Int) :
    ∃ g c, w.cell? ⟨P.iB, 16, none⟩ = some (.slice (some ⟨g, 0, none⟩) s.i.glo.length c) ∧ w.cell? ⟨g, a, none⟩ = some (.int .u64 (s.i.glo[a]'ha)) ∧ w.frozen? ⟨g, a, none⟩ = false ∧ To w S L u P M (w.setCell ⟨g, a, none⟩ (.int .u64 v)) { s with i := { s.i with glo := s.i.glo.set a v } } := by
  obtain ⟨mc, tA, fA, cA, bA, tc, fc', cc, bc, mv, tv, gv, ev, dv, hi⟩ := h.inx
  have hr := h.sep.holds _ _ hi.glo
  have hr' : Row w 26 1 gv (ints .u64 s.i.glo) := hr
  obtain ⟨A, n, c, rfl, h1, h2, h3, h4, h5⟩ := hr
  rw [ints_len, Nat.mul_one] at h1
  subst h1
  obtain ⟨g, cur, rfl, hg, hcs, ht⟩ := h5 (by omega)
  have hc := Row.cell hr' (by omega) a (.int .u64 (s.i.glo[a]'ha)) (ints_get _ _ _ _ (List.getElem?_eq_getElem ha))
  obtain ⟨r1, g1⟩ := Row.set hr' a (by rw [ints_len]; exact ha) (.int .u64 v)
  have hset : (ints .u64 s.i.glo).set a (.int .u64 v) = ints .u64 (s.i.glo.set a v) := by simp [ints, List.map_set]
  rw [hset] at r1
  obtain ⟨s1, ro1⟩ := h.sep.grow hi.glo r1 g1 (.inl rfl)
  refine ⟨g, c, hi.i16, hc.1, hc.2, S, _, ⟨s1, ?_, ?_, ?_, ?_, h.wf⟩, (Keep.refl u L).upd rfl, ro1, fun _ h => h⟩
  · rw [upd_other _ _ (by simp)]; exact h.mach
  · obtain ⟨fv, sv, vv, q1, ⟨raws, q2, q3, q4⟩, q5, q6⟩ := h.cfg
    exact ⟨fv, sv, vv, by rw [upd_other _ _ (by simp)]; exact q1, ⟨raws, q2, by rw [upd_other _ _ (by simp)]; exact q3, fun k f r x y => by rw [upd_other _ _ (by simp), upd_other _ _ (by simp)]; exact q4 k f r x y⟩, by rw [upd_other _ _ (by simp)]; exact q5, by rw [upd_other _ _ (by simp)]; exact q6⟩
  · obtain ⟨raws, q1, q2, q3⟩ := hi.tabs
    refine ⟨mc, _, _, _, _, _, _, by rw [upd_other _ _ (by simp)]; exact hi.ins, hi.mod.mono ro1 (fun _ h => h), hi.blocks.mono ro1 (fun _ h => h) fun _ _ h => h.mono ro1 (fun _ h => h), by rw [upd_other _ _ (by simp)]; exact hi.mem, ⟨raws, q1, by rw [upd_other _ _ (by simp)]; exact q2, fun k l v x y => by rw [upd_other _ _ (by simp)]; exact q3 k l v x y⟩, upd_same _ _ _, by rw [upd_other _ _ (by simp)]; exact hi.els, by rw [upd_other _ _ (by simp)]; exact hi.das⟩
  · exact h.jou.mono ro1 (fun _ h => h) (upd_other _ _ (by simp)) (upd_other _ _ (by simp))
theorem notes_nil (w : World) (iv : Value) : Calls Tryz.prog 125 #[.pointer none, iv] w fun e w' => e = .returned (.bool false) ∧ w' = w := by
  go_enter Tryz.func125, Tryz.ntmps125
  go_wp2
  go_ret
  exact ⟨rfl, rfl⟩
set_option maxRecDepth 100000 in
theorem global_nil (w : World) (iv : Value) (a : Int) : Calls Tryz.prog 82 #[.pointer none, iv, .int .i64 a] w fun e w' => e = .returned (.tuple #[]) ∧ Still w w' := by
  go_enter Tryz.func82, Tryz.ntmps82
  go_wp2_with fail
  go_quiet ((go_at_call 125; (with_reducible exact Calls.quiet_of_same (notes_nil _ _))))
  go_wp2
  exact bodyPost_ret (v := .tuple #[]) (by simp [results, Tryz.results82, go_sem]) rfl ⟨rfl, by repeat (first | exact Still.refl _ | refine Still.drewN ?_ _ | refine Still.drew ?_ | refine Still.alloc ?_ _)⟩
end Go.Proofs.YtmnebeikafigjaaGreatDoor
/- step's machine: places. -/
set_option linter.unusedVariables false
namespace Go.Proofs.YtmnebeikafigjaaGreatDoor
open Go.RowKit Go.Sep Go.St
variable {w : World} {S : Nat → Prop} {L : Key → Option Ck} {u : Nat} {P : Ptrs} {M : Mo} {s : Ms}
def getL (l : List Int) (a : Int) (C : Cf) : Cf := match l[a.toNat]? with
  | none => endsC 17
  | some v => pushI C v
def placesC (I : In) (C : Cf) (f : Fr) (x : Ins) : Option (Cf × In) :=
  if x.op = 26 then some (match popsC C 1 with
    | none => endsC 17
    | some (_, C1) => C1, I)
  else if x.op = 32 then some (getL f.loc x.a C, I)
  else if x.op = 33 ∨ x.op = 34 then some (match popsC C 1 with
    | none => endsC 17
    | some (l, C1) => if x.a.toNat < f.loc.length then (let C2 := setTop C1 { f with loc := f.loc.set x.a.toNat (l.headD 0) }; if x.op = 34 then pushI C2 (l.headD 0) else C2) else endsC 17, I)
  else if x.op = 35 then some (getL I.glo x.a C, I)
  else if x.op = 36 then some (match popsC C 1 with
    | none => (endsC 17, I)
    | some (l, C1) => if x.a.toNat < I.glo.length then (C1, { I with glo := I.glo.set x.a.toNat (l.headD 0) }) else (endsC 17, I))
  else if x.op = 65 ∨ x.op = 66 then some (pushI C x.n, I)
  else if x.op = 208 then some (pushI C 0, I)
  else if x.op = 209 then some (match popsC C 1 with
    | none => endsC 17
    | some (l, C1) => pushI C1 (if l.headD 0 = 0 then 1 else 0), I)
  else if x.op = 210 then some (pushI C (x.a + 1), I)
  else none
def PlR (w : World) (S : Nat → Prop) (L : Key → Option Ck) (u : Nat) (P : Ptrs) (M : Mo) (s : Ms) (r : Option (Cf × In)) (e : Ending) (w' : World) : Prop := match r with
  | none => e = .returned (.bool false) ∧ Still w w'
  | some (C1, I1) => e = .returned (.bool true) ∧ To w S L u P M w' { c := C1, i := I1, j := s.j }
theorem stuck_same (mp : Value) (w : World) : Calls Tryz.prog 39 #[mp, .bool false] w fun e w' => e = .returned (.bool false) ∧ w' = w := (stuck_no mp w).mono fun _ _ h => ⟨h.1, h.2.symm⟩
set_option maxRecDepth 100000 in
set_option maxHeartbeats 1000000 in
theorem places_n65 (h : Md w S L u P M s) {k fB fc : Nat} {f : Fr} {sv vv lv bv : Value} {raws : List (Value × Value)} (hf : Frm w L u P s k f fB fc sv vv raws lv bv) (pre : Pre M s.i s.c k f) (hb : s.c.st.length ≤ 900000000) (x : Ins) (xl : Value) (hx : Ins.wf x) (hop : x.op = 65) :
    Calls Tryz.prog 44 #[.pointer (some ⟨P.mB, 0, none⟩), insV x xl] w (PlR w S L u P M s (some (pushI s.c x.n, s.i))) := by
  unfold insV
  have HF := Lib.hid (fun (w' : World) (q : Still w w') => frame_c (h.still q) (hf.still q) pre.k)
  have HR := Lib.hid (fun (w' : World) (q : Still w w') => (q.ro h.sep.lt))
  have HPU := Lib.hid (fun (w' : World) (q : Still w w') => push1_c (h.still q) x.n (by omega))
  have HH := Lib.hid (And.intro h (And.intro hf (And.intro pre (And.intro hb hx))))
  clear h hf pre hx hb 
  go_enter Tryz.func44, Tryz.ntmps44
  go_wp2_with fail
  refine (HF.out _ ((Still.refl w).alloc _)).mono ?_
  rintro e w1 ⟨rfl, n1, rfl⟩
  have Q := Lib.hid (((Still.refl w).alloc (.cells #[.int .i64 x.op, .int .u32 x.a, .int .u32 x.b, .int .u64 x.n, xl, .int .i64 x.t] 29)).drewN n1)
  have x0 : ((w.alloc (.cells #[.int .i64 x.op, .int .u32 x.a, .int .u32 x.b, .int .u64 x.n, xl, .int .i64 x.t] 29)).drewN n1).cell? ⟨w.heap.size, 0, none⟩ = some (.int .i64 x.op) := by simp
  have x1 : ((w.alloc (.cells #[.int .i64 x.op, .int .u32 x.a, .int .u32 x.b, .int .u64 x.n, xl, .int .i64 x.t] 29)).drewN n1).cell? ⟨w.heap.size, 1, none⟩ = some (.int .u32 x.a) := by simp
  have x3 : ((w.alloc (.cells #[.int .i64 x.op, .int .u32 x.a, .int .u32 x.b, .int .u64 x.n, xl, .int .i64 x.t] 29)).drewN n1).cell? ⟨w.heap.size, 3, none⟩ = some (.int .u64 x.n) := by simp
  have hsz : ((w.alloc (.cells #[.int .i64 x.op, .int .u32 x.a, .int .u32 x.b, .int .u64 x.n, xl, .int .i64 x.t] 29)).drewN n1).heap.size = w.heap.size + 1 := by simp
  try rw [hop] at *
  have hge : w.heap.size < ((w.alloc (.cells #[.int .i64 65, .int .u32 x.a, .int .u32 x.b, .int .u64 x.n, xl, .int .i64 x.t] 29)).drewN n1).heap.size := by simp
  clear HF hsz
  generalize ((w.alloc (.cells #[.int .i64 65, .int .u32 x.a, .int .u32 x.b, .int .u64 x.n, xl, .int .i64 x.t] 29)).drewN n1) = w1 at *
  go_wp2_with fail
  refine (HPU.out _ Q.out).mono ?_
  rintro e w3 ⟨rfl, ht⟩
  have HT := Lib.hid (To.trans (Keep.refl _ _) (HR.out _ Q.out) (fun _ h => h) ht)
  clear ht
  go_wp2
  exact bodyPost_ret (v := .bool true) (by simp [results, Tryz.results44, go_sem]) rfl ⟨rfl, HT.out⟩
set_option maxRecDepth 100000 in
set_option maxHeartbeats 1000000 in
theorem places_n66 (h : Md w S L u P M s) {k fB fc : Nat} {f : Fr} {sv vv lv bv : Value} {raws : List (Value × Value)} (hf : Frm w L u P s k f fB fc sv vv raws lv bv) (pre : Pre M s.i s.c k f) (hb : s.c.st.length ≤ 900000000) (x : Ins) (xl : Value) (hx : Ins.wf x) (hop : x.op = 66) :
    Calls Tryz.prog 44 #[.pointer (some ⟨P.mB, 0, none⟩), insV x xl] w (PlR w S L u P M s (some (pushI s.c x.n, s.i))) := by
  unfold insV
  have HF := Lib.hid (fun (w' : World) (q : Still w w') => frame_c (h.still q) (hf.still q) pre.k)
  have HR := Lib.hid (fun (w' : World) (q : Still w w') => (q.ro h.sep.lt))
  have HPU := Lib.hid (fun (w' : World) (q : Still w w') => push1_c (h.still q) x.n (by omega))
  have HH := Lib.hid (And.intro h (And.intro hf (And.intro pre (And.intro hb hx))))
  clear h hf pre hx hb 
  go_enter Tryz.func44, Tryz.ntmps44
  go_wp2_with fail
  refine (HF.out _ ((Still.refl w).alloc _)).mono ?_
  rintro e w1 ⟨rfl, n1, rfl⟩
  have Q := Lib.hid (((Still.refl w).alloc (.cells #[.int .i64 x.op, .int .u32 x.a, .int .u32 x.b, .int .u64 x.n, xl, .int .i64 x.t] 29)).drewN n1)
  have x0 : ((w.alloc (.cells #[.int .i64 x.op, .int .u32 x.a, .int .u32 x.b, .int .u64 x.n, xl, .int .i64 x.t] 29)).drewN n1).cell? ⟨w.heap.size, 0, none⟩ = some (.int .i64 x.op) := by simp
  have x1 : ((w.alloc (.cells #[.int .i64 x.op, .int .u32 x.a, .int .u32 x.b, .int .u64 x.n, xl, .int .i64 x.t] 29)).drewN n1).cell? ⟨w.heap.size, 1, none⟩ = some (.int .u32 x.a) := by simp
  have x3 : ((w.alloc (.cells #[.int .i64 x.op, .int .u32 x.a, .int .u32 x.b, .int .u64 x.n, xl, .int .i64 x.t] 29)).drewN n1).cell? ⟨w.heap.size, 3, none⟩ = some (.int .u64 x.n) := by simp
  have hsz : ((w.alloc (.cells #[.int .i64 x.op, .int .u32 x.a, .int .u32 x.b, .int .u64 x.n, xl, .int .i64 x.t] 29)).drewN n1).heap.size = w.heap.size + 1 := by simp
  try rw [hop] at *
  have hge : w.heap.size < ((w.alloc (.cells #[.int .i64 66, .int .u32 x.a, .int .u32 x.b, .int .u64 x.n, xl, .int .i64 x.t] 29)).drewN n1).heap.size := by simp
  clear HF hsz
  generalize ((w.alloc (.cells #[.int .i64 66, .int .u32 x.a, .int .u32 x.b, .int .u64 x.n, xl, .int .i64 x.t] 29)).drewN n1) = w1 at *
  go_wp2_with fail
  refine (HPU.out _ Q.out).mono ?_
  rintro e w3 ⟨rfl, ht⟩
  have HT := Lib.hid (To.trans (Keep.refl _ _) (HR.out _ Q.out) (fun _ h => h) ht)
  clear ht
  go_wp2
  exact bodyPost_ret (v := .bool true) (by simp [results, Tryz.results44, go_sem]) rfl ⟨rfl, HT.out⟩
set_option maxRecDepth 100000 in
set_option maxHeartbeats 1000000 in
theorem places_n208 (h : Md w S L u P M s) {k fB fc : Nat} {f : Fr} {sv vv lv bv : Value} {raws : List (Value × Value)} (hf : Frm w L u P s k f fB fc sv vv raws lv bv) (pre : Pre M s.i s.c k f) (hb : s.c.st.length ≤ 900000000) (x : Ins) (xl : Value) (hx : Ins.wf x) (hop : x.op = 208) :
    Calls Tryz.prog 44 #[.pointer (some ⟨P.mB, 0, none⟩), insV x xl] w (PlR w S L u P M s (some (pushI s.c 0, s.i))) := by
  unfold insV
  have HF := Lib.hid (fun (w' : World) (q : Still w w') => frame_c (h.still q) (hf.still q) pre.k)
  have HR := Lib.hid (fun (w' : World) (q : Still w w') => (q.ro h.sep.lt))
  have HPU := Lib.hid (fun (w' : World) (q : Still w w') => push1_c (h.still q) 0 (by omega))
  have HH := Lib.hid (And.intro h (And.intro hf (And.intro pre (And.intro hb hx))))
  clear h hf pre hx hb 
  go_enter Tryz.func44, Tryz.ntmps44
  go_wp2_with fail
  refine (HF.out _ ((Still.refl w).alloc _)).mono ?_
  rintro e w1 ⟨rfl, n1, rfl⟩
  have Q := Lib.hid (((Still.refl w).alloc (.cells #[.int .i64 x.op, .int .u32 x.a, .int .u32 x.b, .int .u64 x.n, xl, .int .i64 x.t] 29)).drewN n1)
  have x0 : ((w.alloc (.cells #[.int .i64 x.op, .int .u32 x.a, .int .u32 x.b, .int .u64 x.n, xl, .int .i64 x.t] 29)).drewN n1).cell? ⟨w.heap.size, 0, none⟩ = some (.int .i64 x.op) := by simp
  have x1 : ((w.alloc (.cells #[.int .i64 x.op, .int .u32 x.a, .int .u32 x.b, .int .u64 x.n, xl, .int .i64 x.t] 29)).drewN n1).cell? ⟨w.heap.size, 1, none⟩ = some (.int .u32 x.a) := by simp
  have x3 : ((w.alloc (.cells #[.int .i64 x.op, .int .u32 x.a, .int .u32 x.b, .int .u64 x.n, xl, .int .i64 x.t] 29)).drewN n1).cell? ⟨w.heap.size, 3, none⟩ = some (.int .u64 x.n) := by simp
  have hsz : ((w.alloc (.cells #[.int .i64 x.op, .int .u32 x.a, .int .u32 x.b, .int .u64 x.n, xl, .int .i64 x.t] 29)).drewN n1).heap.size = w.heap.size + 1 := by simp
  try rw [hop] at *
  have hge : w.heap.size < ((w.alloc (.cells #[.int .i64 208, .int .u32 x.a, .int .u32 x.b, .int .u64 x.n, xl, .int .i64 x.t] 29)).drewN n1).heap.size := by simp
  clear HF hsz
  generalize ((w.alloc (.cells #[.int .i64 208, .int .u32 x.a, .int .u32 x.b, .int .u64 x.n, xl, .int .i64 x.t] 29)).drewN n1) = w1 at *
  go_wp2_with fail
  refine (HPU.out _ Q.out).mono ?_
  rintro e w3 ⟨rfl, ht⟩
  have HT := Lib.hid (To.trans (Keep.refl _ _) (HR.out _ Q.out) (fun _ h => h) ht)
  clear ht
  go_wp2
  exact bodyPost_ret (v := .bool true) (by simp [results, Tryz.results44, go_sem]) rfl ⟨rfl, HT.out⟩
set_option maxRecDepth 100000 in
set_option maxHeartbeats 1000000 in
theorem places_n210 (h : Md w S L u P M s) {k fB fc : Nat} {f : Fr} {sv vv lv bv : Value} {raws : List (Value × Value)} (hf : Frm w L u P s k f fB fc sv vv raws lv bv) (pre : Pre M s.i s.c k f) (hb : s.c.st.length ≤ 900000000) (x : Ins) (xl : Value) (hx : Ins.wf x) (hop : x.op = 210) :
    Calls Tryz.prog 44 #[.pointer (some ⟨P.mB, 0, none⟩), insV x xl] w (PlR w S L u P M s (some (pushI s.c (x.a + 1), s.i))) := by
  unfold insV
  have HF := Lib.hid (fun (w' : World) (q : Still w w') => frame_c (h.still q) (hf.still q) pre.k)
  have HR := Lib.hid (fun (w' : World) (q : Still w w') => (q.ro h.sep.lt))
  have hw1 : IntKind.u64.wrap x.a = x.a := by have := hx.a; simp [IntKind.wrap, IntKind.bits, IntKind.signed]; omega
  have hw2 : IntKind.u64.wrap (x.a + 1) = x.a + 1 := by have := hx.a; simp [IntKind.wrap, IntKind.bits, IntKind.signed]; omega
  have HPU := Lib.hid (fun (w' : World) (q : Still w w') => push1_c (h.still q) (x.a + 1) (by omega))
  have HH := Lib.hid (And.intro h (And.intro hf (And.intro pre (And.intro hb hx))))
  clear h hf pre hx hb 
  go_enter Tryz.func44, Tryz.ntmps44
  go_wp2_with fail
  refine (HF.out _ ((Still.refl w).alloc _)).mono ?_
  rintro e w1 ⟨rfl, n1, rfl⟩
  have Q := Lib.hid (((Still.refl w).alloc (.cells #[.int .i64 x.op, .int .u32 x.a, .int .u32 x.b, .int .u64 x.n, xl, .int .i64 x.t] 29)).drewN n1)
  have x0 : ((w.alloc (.cells #[.int .i64 x.op, .int .u32 x.a, .int .u32 x.b, .int .u64 x.n, xl, .int .i64 x.t] 29)).drewN n1).cell? ⟨w.heap.size, 0, none⟩ = some (.int .i64 x.op) := by simp
  have x1 : ((w.alloc (.cells #[.int .i64 x.op, .int .u32 x.a, .int .u32 x.b, .int .u64 x.n, xl, .int .i64 x.t] 29)).drewN n1).cell? ⟨w.heap.size, 1, none⟩ = some (.int .u32 x.a) := by simp
  have x3 : ((w.alloc (.cells #[.int .i64 x.op, .int .u32 x.a, .int .u32 x.b, .int .u64 x.n, xl, .int .i64 x.t] 29)).drewN n1).cell? ⟨w.heap.size, 3, none⟩ = some (.int .u64 x.n) := by simp
  have hsz : ((w.alloc (.cells #[.int .i64 x.op, .int .u32 x.a, .int .u32 x.b, .int .u64 x.n, xl, .int .i64 x.t] 29)).drewN n1).heap.size = w.heap.size + 1 := by simp
  try rw [hop] at *
  have hge : w.heap.size < ((w.alloc (.cells #[.int .i64 210, .int .u32 x.a, .int .u32 x.b, .int .u64 x.n, xl, .int .i64 x.t] 29)).drewN n1).heap.size := by simp
  clear HF hsz
  generalize ((w.alloc (.cells #[.int .i64 210, .int .u32 x.a, .int .u32 x.b, .int .u64 x.n, xl, .int .i64 x.t] 29)).drewN n1) = w1 at *
  go_wp2_with fail
  refine (HPU.out _ Q.out).mono ?_
  rintro e w3 ⟨rfl, ht⟩
  have HT := Lib.hid (To.trans (Keep.refl _ _) (HR.out _ Q.out) (fun _ h => h) ht)
  clear ht
  go_wp2
  exact bodyPost_ret (v := .bool true) (by simp [results, Tryz.results44, go_sem]) rfl ⟨rfl, HT.out⟩
set_option maxRecDepth 100000 in
set_option maxHeartbeats 1000000 in
theorem places_drop (h : Md w S L u P M s) {k fB fc : Nat} {f : Fr} {sv vv lv bv : Value} {raws : List (Value × Value)} (hf : Frm w L u P s k f fB fc sv vv raws lv bv) (pre : Pre M s.i s.c k f) (hb : s.c.st.length ≤ 900000000) (x : Ins) (xl : Value) (hx : Ins.wf x) (hop : x.op = 26) :
    Calls Tryz.prog 44 #[.pointer (some ⟨P.mB, 0, none⟩), insV x xl] w (PlR w S L u P M s (some ((match popsC s.c 1 with
    | none => endsC 17
    | some (_, C1) => C1), s.i))) := by
  unfold insV
  have HF := Lib.hid (fun (w' : World) (q : Still w w') => frame_c (h.still q) (hf.still q) pre.k)
  have HR := Lib.hid (fun (w' : World) (q : Still w w') => (q.ro h.sep.lt))
  have HP := Lib.hid (fun (w' : World) (q : Still w w') => pops_c (h.holds q) 1 (by omega) pre.st _ rfl)
  generalize popsC s.c 1 = pp at HP ⊢
  have HH := Lib.hid (And.intro h (And.intro hf (And.intro pre (And.intro hb hx))))
  clear h hf pre hx hb 
  go_enter Tryz.func44, Tryz.ntmps44
  go_wp2_with fail
  refine (HF.out _ ((Still.refl w).alloc _)).mono ?_
  rintro e w1 ⟨rfl, n1, rfl⟩
  have Q := Lib.hid (((Still.refl w).alloc (.cells #[.int .i64 x.op, .int .u32 x.a, .int .u32 x.b, .int .u64 x.n, xl, .int .i64 x.t] 29)).drewN n1)
  have x0 : ((w.alloc (.cells #[.int .i64 x.op, .int .u32 x.a, .int .u32 x.b, .int .u64 x.n, xl, .int .i64 x.t] 29)).drewN n1).cell? ⟨w.heap.size, 0, none⟩ = some (.int .i64 x.op) := by simp
  have x1 : ((w.alloc (.cells #[.int .i64 x.op, .int .u32 x.a, .int .u32 x.b, .int .u64 x.n, xl, .int .i64 x.t] 29)).drewN n1).cell? ⟨w.heap.size, 1, none⟩ = some (.int .u32 x.a) := by simp
  have x3 : ((w.alloc (.cells #[.int .i64 x.op, .int .u32 x.a, .int .u32 x.b, .int .u64 x.n, xl, .int .i64 x.t] 29)).drewN n1).cell? ⟨w.heap.size, 3, none⟩ = some (.int .u64 x.n) := by simp
  have hsz : ((w.alloc (.cells #[.int .i64 x.op, .int .u32 x.a, .int .u32 x.b, .int .u64 x.n, xl, .int .i64 x.t] 29)).drewN n1).heap.size = w.heap.size + 1 := by simp
  try rw [hop] at *
  have hge : w.heap.size < ((w.alloc (.cells #[.int .i64 26, .int .u32 x.a, .int .u32 x.b, .int .u64 x.n, xl, .int .i64 x.t] 29)).drewN n1).heap.size := by simp
  clear HF hsz
  generalize ((w.alloc (.cells #[.int .i64 26, .int .u32 x.a, .int .u32 x.b, .int .u64 x.n, xl, .int .i64 x.t] 29)).drewN n1) = w1 at *
  go_wp2_with fail
  refine (HP.out _ Q.out).mono ?_
  intro e w3 ht
  cases pp with
  | none =>
    obtain ⟨rfl, ht⟩ := ht
    have HT := Lib.hid (To.trans (Keep.refl _ _) (HR.out _ Q.out) (fun _ h => .inl h) ht)
    clear ht
    go_wp2
    exact bodyPost_ret (v := .bool true) (by simp [results, Tryz.results44, go_sem]) rfl ⟨rfl, HT.out⟩
  | some p =>
    obtain ⟨l, C1⟩ := p
    obtain ⟨B, n4, c4', rfl, S2, L2, h2, k2, ro2, hS2, rd2, sf2⟩ := ht
    have HT := Lib.hid (To.trans k2 ((HR.out _ Q.out).trans ro2 (fun _ h => .inl h)) (fun b (hb : S b) => hS2 b (.inl hb)) (To.refl h2))
    clear h2 k2 ro2 hS2 rd2 sf2
    go_wp2
    exact bodyPost_ret (v := .bool true) (by simp [results, Tryz.results44, go_sem]) rfl ⟨rfl, HT.out⟩
set_option maxRecDepth 100000 in
set_option maxHeartbeats 1000000 in
theorem places_no (h : Md w S L u P M s) {k fB fc : Nat} {f : Fr} {sv vv lv bv : Value} {raws : List (Value × Value)} (hf : Frm w L u P s k f fB fc sv vv raws lv bv) (hk : k ≤ 1000000) (x : Ins) (xl : Value) (hr : placesC s.i s.c f x = none) (h27 : x.op ≠ 27) (h28 : x.op ≠ 28) :
    Calls Tryz.prog 44 #[.pointer (some ⟨P.mB, 0, none⟩), insV x xl] w (PlR w S L u P M s none) := by
  have hne : x.op ≠ 26 ∧ x.op ≠ 27 ∧ x.op ≠ 28 ∧ x.op ≠ 32 ∧ x.op ≠ 33 ∧ x.op ≠ 34 ∧ x.op ≠ 35 ∧ x.op ≠ 36 ∧ x.op ≠ 65 ∧ x.op ≠ 66 ∧ x.op ≠ 208 ∧ x.op ≠ 209 ∧ x.op ≠ 210 := by
    unfold placesC at hr
    refine ⟨?_, ?_, ?_, ?_, ?_, ?_, ?_, ?_, ?_, ?_, ?_, ?_, ?_⟩ <;> first | exact h27 | exact h28 | (intro e; simp [e] at hr)
  obtain ⟨a26, a27, a28, a32, a33, a34, a35, a36, a65, a66, a208, a209, a210⟩ := hne
  have b26 : (x.op == 26) = false := beq_eq_false_iff_ne.2 a26
  have b27 : (x.op == 27) = false := beq_eq_false_iff_ne.2 a27
  have b28 : (x.op == 28) = false := beq_eq_false_iff_ne.2 a28
  have b32 : (x.op == 32) = false := beq_eq_false_iff_ne.2 a32
  have b33 : (x.op == 33) = false := beq_eq_false_iff_ne.2 a33
  have b34 : (x.op == 34) = false := beq_eq_false_iff_ne.2 a34
  have b35 : (x.op == 35) = false := beq_eq_false_iff_ne.2 a35
  have b36 : (x.op == 36) = false := beq_eq_false_iff_ne.2 a36
  have b65 : (x.op == 65) = false := beq_eq_false_iff_ne.2 a65
  have b66 : (x.op == 66) = false := beq_eq_false_iff_ne.2 a66
  have b208 : (x.op == 208) = false := beq_eq_false_iff_ne.2 a208
  have b209 : (x.op == 209) = false := beq_eq_false_iff_ne.2 a209
  have b210 : (x.op == 210) = false := beq_eq_false_iff_ne.2 a210
  have HF := Lib.hid (fun (w' : World) (q : Still w w') => frame_c (h.still q) (hf.still q) hk)
  unfold insV
  clear h hr hf hk h27 h28 a26 a27 a28 a32 a33 a34 a35 a36 a65 a66 a208 a209 a210
  go_enter Tryz.func44, Tryz.ntmps44
  go_wp2_with fail
  refine (HF.out _ ((Still.refl w).alloc _)).mono ?_
  rintro e w1 ⟨rfl, n1, rfl⟩
  go_wp2
  exact bodyPost_ret (v := .bool false) (by simp [results, Tryz.results44, go_sem]) rfl ⟨rfl, ((Still.refl w).alloc _).drewN _⟩
set_option maxRecDepth 100000 in
set_option maxHeartbeats 1000000 in
theorem places_get (h : Md w S L u P M s) {k fB fc : Nat} {f : Fr} {sv vv lv bv : Value} {raws : List (Value × Value)} (hf : Frm w L u P s k f fB fc sv vv raws lv bv) (pre : Pre M s.i s.c k f) (hb : s.c.st.length ≤ 900000000) (x : Ins) (xl : Value) (hx : Ins.wf x) (hop : x.op = 32) :
    Calls Tryz.prog 44 #[.pointer (some ⟨P.mB, 0, none⟩), insV x xl] w (PlR w S L u P M s (some (getL f.loc x.a s.c, s.i))) := by
  unfold insV
  have HF := Lib.hid (fun (w' : World) (q : Still w w') => frame_c (h.still q) (hf.still q) pre.k)
  have HR := Lib.hid (fun (w' : World) (q : Still w w') => (q.ro h.sep.lt))
  obtain ⟨n, hn⟩ := Int.eq_ofNat_of_zero_le hx.a.1
  have hn2 : n < 4294967296 := by have := hx.a.2; omega
  rw [hn]
  have hf4 := hf.cell 4 _ rfl
  have hlr : Row w 26 1 lv (ints .u64 f.loc) := h.sep.holds _ _ hf.loc
  have hlr' := hlr
  obtain ⟨A, n0, c, rfl, h1, h2, h3, h4, h5⟩ := hlr'
  rw [ints_len, Nat.mul_one] at h1
  subst h1
  have hml : f.loc.length ≤ maxLen := Nat.le_trans h3 h4
  have HS := Lib.hid (fun (b : Bool) (hb : decide ((n : Int) < (f.loc.length : Int)) = b) (w' : World) => has_c (n : Int) f.loc.length b (by omega) (by omega) hml hb w')
  have HE := Lib.hid (fun (w' : World) (q : Still w w') => stuck_yes (h.still q))
  have HPU := Lib.hid (fun (v : Int) (w' : World) (q : Still w w') => push1_c (h.still q) v (by omega))
  have LR := Lib.hid (And.intro hlr (And.intro hn hf4))
  have HH := Lib.hid (And.intro h (And.intro hf (And.intro pre (And.intro hb hx))))
  clear h hf pre hx hb h2 h3 h4 h5 hml hn2 hlr hf4
  go_enter Tryz.func44, Tryz.ntmps44
  go_wp2_with fail
  refine (HF.out _ ((Still.refl w).alloc _)).mono ?_
  rintro e w1 ⟨rfl, n1, rfl⟩
  have Q := Lib.hid (((Still.refl w).alloc (.cells #[.int .i64 x.op, .int .u32 (n : Int), .int .u32 x.b, .int .u64 x.n, xl, .int .i64 x.t] 29)).drewN n1)
  have x0 : ((w.alloc (.cells #[.int .i64 x.op, .int .u32 (n : Int), .int .u32 x.b, .int .u64 x.n, xl, .int .i64 x.t] 29)).drewN n1).cell? ⟨w.heap.size, 0, none⟩ = some (.int .i64 x.op) := by simp
  have x1 : ((w.alloc (.cells #[.int .i64 x.op, .int .u32 (n : Int), .int .u32 x.b, .int .u64 x.n, xl, .int .i64 x.t] 29)).drewN n1).cell? ⟨w.heap.size, 1, none⟩ = some (.int .u32 (n : Int)) := by simp
  have hsz : ((w.alloc (.cells #[.int .i64 x.op, .int .u32 (n : Int), .int .u32 x.b, .int .u64 x.n, xl, .int .i64 x.t] 29)).drewN n1).heap.size = w.heap.size + 1 := by simp
  try rw [hop] at *
  have hge : w.heap.size < ((w.alloc (.cells #[.int .i64 32, .int .u32 (n : Int), .int .u32 x.b, .int .u64 x.n, xl, .int .i64 x.t] 29)).drewN n1).heap.size := by simp
  clear HF hsz
  generalize ((w.alloc (.cells #[.int .i64 32, .int .u32 (n : Int), .int .u32 x.b, .int .u64 x.n, xl, .int .i64 x.t] 29)).drewN n1) = w1 at *
  have f4 := Q.out.cell LR.out.2.2
  have b1 := World.block_lt_of_cell? w1 _ x1
  have b2 := World.block_lt_of_cell? w1 _ f4
  clear hn
  by_cases hlt : n < f.loc.length
  · obtain ⟨v, hv⟩ : ∃ v, f.loc[n]? = some v := ⟨_, List.getElem?_eq_getElem hlt⟩
    obtain ⟨g, rfl, hvc⟩ : ∃ g, A = some ⟨g, 0, none⟩ ∧ w.cell? ⟨g, n, none⟩ = some (.int .u64 v) := by
      have hlr := LR.out.1
      obtain ⟨A', n', c', e1, h1, h2, h3, h4, h5⟩ := id hlr
      cases e1
      have hc : 0 < c := by omega
      obtain ⟨g, cur, rfl, _⟩ := h5 hc
      exact ⟨g, rfl, (Row.cell hlr hc n _ (ints_get _ _ _ _ hv)).1⟩
    have vc := Q.out.cell hvc
    have D1 := Lib.hid (HS.out true (decide_eq_true (by omega)))
    have g0 : (0 : Int) ≤ (n : Int) := by omega
    have g1 : (n : Int) < (f.loc.length : Int) := by omega
    have GE := Lib.hid (show getL f.loc (n : Int) s.c = pushI s.c v from by unfold getL; rw [Int.toNat_natCast, hv])
    clear hv hvc HS hlt HE
    go_wp2_with fail
    go_quiet (first | (go_at_call 72; (with_reducible exact Calls.quiet_of_same (D1.out _))) | (go_at_call 39; (with_reducible exact Calls.quiet_of_same (stuck_same _ _))))
    go_wp2_with fail
    replace f4 : (w1.drewN nq).cell? _ = _ := f4
    replace x1 : (w1.drewN nq).cell? _ = _ := x1
    replace vc : (w1.drewN nq).cell? _ = _ := vc
    have Q2 := Lib.hid (Q.out.drewN nq)
    clear Q b1 b2 hge
    generalize w1.drewN nq = w2 at *
    refine wp_region_z (fun w' => w'.cell? ⟨fB, k * 6 + 4, none⟩ = some (.slice (some ⟨g, 0, none⟩) f.loc.length c) ∧ w'.cell? ⟨w.heap.size, 1, none⟩ = some (.int .u32 (n : Int)) ∧ w'.cell? ⟨g, n, none⟩ = some (.int .u64 v)) (fun j => j == 10) (by kernel_rfl) ?_ (fun hHeld => ?_)
    · first | exact ⟨f4, x1, vc⟩ | exact ⟨(World.cell?_alloc_some _ _ _ (Option.isSome_iff_exists.2 ⟨_, hHeld.1⟩)).trans hHeld.1, (World.cell?_alloc_some _ _ _ (Option.isSome_iff_exists.2 ⟨_, hHeld.2.1⟩)).trans hHeld.2.1, (World.cell?_alloc_some _ _ _ (Option.isSome_iff_exists.2 ⟨_, hHeld.2.2⟩)).trans hHeld.2.2⟩
    (refine wpZ_take (i := 0) (oi := ⟨some 62, .move (.tmp 0), 103, _, _, none⟩) (v := ?_) rfl (by kernel_rfl) (fun _ _ _ h => h) (by assumption) (Or.inl ⟨by rfl, ?_⟩) ?_; rotate_left 1; · ((intro w hSw; (try dsimp only at hSw); go_split_ands; go_simp) <;> (try with_reducible rfl)))
    try simp only [Act.put, List.setIfInBounds_toArray, List.set_cons_zero, List.set_cons_succ]
    (refine wpZ_take (i := 1) (oi := ⟨some 63, .move (.tmp 5), 107, _, _, none⟩) (v := ?_) rfl (by kernel_rfl) (fun _ _ _ h => h) (by assumption) (Or.inl ⟨by rfl, ?_⟩) ?_; rotate_left 1; · ((intro w hSw; (try dsimp only at hSw); go_split_ands; go_simp) <;> (try with_reducible rfl)))
    try simp only [Act.put, List.setIfInBounds_toArray, List.set_cons_zero, List.set_cons_succ]
    (refine wpZ_take (i := 2) (oi := ⟨some 64, .nilCheck (.tmp 63), 0, _, _, none⟩) (v := ?_) rfl (by kernel_rfl) (fun _ _ _ h => h) (by assumption) (Or.inl ⟨by rfl, ?_⟩) ?_; rotate_left 1; · ((intro w hSw; (try dsimp only at hSw); go_split_ands; go_simp) <;> (try with_reducible rfl)))
    try simp only [Act.put, List.setIfInBounds_toArray, List.set_cons_zero, List.set_cons_succ]
    (refine wpZ_take (i := 3) (oi := ⟨some 65, .fieldAddr 113 (.tmp 64) 4, 0, _, _, none⟩) (v := ?_) rfl (by kernel_rfl) (fun _ _ _ h => h) (by assumption) (Or.inl ⟨by rfl, ?_⟩) ?_; rotate_left 1; · ((intro w hSw; (try dsimp only at hSw); go_split_ands; go_simp) <;> (try with_reducible rfl)))
    try simp only [Act.put, List.setIfInBounds_toArray, List.set_cons_zero, List.set_cons_succ]
    (refine wpZ_take (i := 4) (oi := ⟨some 66, .load 57 (.tmp 65), 57, _, _, none⟩) (v := ?_) rfl (by kernel_rfl) (fun _ _ _ h => h) (by assumption) (Or.inl ⟨by rfl, ?_⟩) ?_; rotate_left 1; · ((intro w hSw; (try dsimp only at hSw); go_split_ands; go_simp) <;> (try with_reducible rfl)))
    try simp only [Act.put, List.setIfInBounds_toArray, List.set_cons_zero, List.set_cons_succ]
    (refine wpZ_take (i := 5) (oi := ⟨some 67, .fieldAddr 29 (.tmp 3) 1, 0, _, _, none⟩) (v := ?_) rfl (by kernel_rfl) (fun _ _ _ h => h) (by assumption) (Or.inl ⟨by rfl, ?_⟩) ?_; rotate_left 1; · ((intro w hSw; (try dsimp only at hSw); go_split_ands; go_simp) <;> (try with_reducible rfl)))
    try simp only [Act.put, List.setIfInBounds_toArray, List.set_cons_zero, List.set_cons_succ]
    (refine wpZ_take (i := 6) (oi := ⟨some 68, .load 25 (.tmp 67), 25, _, _, none⟩) (v := ?_) rfl (by kernel_rfl) (fun _ _ _ h => h) (by assumption) (Or.inl ⟨by rfl, ?_⟩) ?_; rotate_left 1; · ((intro w hSw; (try dsimp only at hSw); go_split_ands; go_simp) <;> (try with_reducible rfl)))
    try simp only [Act.put, List.setIfInBounds_toArray, List.set_cons_zero, List.set_cons_succ]
    (refine wpZ_take (i := 7) (oi := ⟨some 69, .indexAddr 57 (.tmp 66) (.tmp 68), 0, _, _, none⟩) (v := ?_) rfl (by kernel_rfl) (fun _ _ _ h => h) (by assumption) (Or.inl ⟨by rfl, ?_⟩) ?_; rotate_left 1; · ((intro w hSw; (try dsimp only at hSw); go_split_ands; go_simp) <;> (try with_reducible rfl)))
    try simp only [Act.put, List.setIfInBounds_toArray, List.set_cons_zero, List.set_cons_succ]
    (refine wpZ_take (i := 8) (oi := ⟨some 70, .load 26 (.tmp 69), 26, _, _, none⟩) (v := ?_) rfl (by kernel_rfl) (fun _ _ _ h => h) (by assumption) (Or.inl ⟨by rfl, ?_⟩) ?_; rotate_left 1; · ((intro w hSw; (try dsimp only at hSw); go_split_ands; go_simp) <;> (try with_reducible rfl)))
    try simp only [Act.put, List.setIfInBounds_toArray, List.set_cons_zero, List.set_cons_succ]
    refine wpZ_one (i := 9) (oi := ⟨some 71, .buildSlice 57 1 #[(0, .tmp 70)], 57, _, _, none⟩) rfl (by kernel_rfl) (fun K hK => ?_)
    go_simp
    refine hK.out _ _ (fun _ => by (first | exact ⟨f4, x1, vc⟩ | exact ⟨(World.cell?_alloc_some _ _ _ (Option.isSome_iff_exists.2 ⟨_, hHeld.1⟩)).trans hHeld.1, (World.cell?_alloc_some _ _ _ (Option.isSome_iff_exists.2 ⟨_, hHeld.2.1⟩)).trans hHeld.2.1, (World.cell?_alloc_some _ _ _ (Option.isSome_iff_exists.2 ⟨_, hHeld.2.2⟩)).trans hHeld.2.2⟩)) (fun hh => ?_)
    have hHeld := hh rfl
    clear hK K
    try simp only [Act.put, List.setIfInBounds_toArray, List.set_cons_zero, List.set_cons_succ]
    refine wpZ_one (i := 10) (oi := ⟨some 72, .call { callee := .value (.func 81), args := #[.tmp 62, .tmp 71], argTypes := #[103, 57] }, 0, _, _, none⟩) rfl (by kernel_rfl) (fun K hK => ?_)
    go_simp; refine (HPU.out v w2.drew Q2.out.drew).mono ?_; rintro e w3 ⟨rfl, ht⟩; have HT := Lib.hid (To.trans (Keep.refl _ _) (HR.out _ Q2.out.drew) (fun _ h => h) ht); clear ht; go_wp2_with fail
    refine hK.out _ _ (fun h => by simp at h) (fun _ => ?_)
    clear hK K
    try simp only [Act.put, List.setIfInBounds_toArray, List.set_cons_zero, List.set_cons_succ]
    refine wpZ_done (by kernel_rfl) ?_ _
    go_wp2; exact bodyPost_ret (v := .bool true) (by simp [results, Tryz.results44, go_sem]) rfl ⟨rfl, by rw [GE.out]; exact HT.out⟩
  · have D1 := Lib.hid (HS.out false (decide_eq_false (by omega)))
    have GE := Lib.hid (show getL f.loc (n : Int) s.c = endsC 17 from by unfold getL; rw [Int.toNat_natCast, List.getElem?_eq_none (by omega)])
    clear HS hlt HPU
    go_wp2_with fail
    refine wp_region_z (fun w' => w'.cell? ⟨fB, k * 6 + 4, none⟩ = some (.slice A f.loc.length c) ∧ w'.cell? ⟨w.heap.size, 1, none⟩ = some (.int .u32 (n : Int))) (fun j => j == 10 || j == 11) (by kernel_rfl) ?_ (fun hHeld => ?_)
    · first | exact ⟨f4, x1⟩ | exact hHeld
    (refine wpZ_take (i := 0) (oi := ⟨some 50, .move (.tmp 0), 103, _, _, none⟩) (v := ?_) rfl (by kernel_rfl) (fun _ _ _ h => h) (by assumption) (Or.inl ⟨by rfl, ?_⟩) ?_; rotate_left 1; · ((intro w hSw; (try dsimp only at hSw); go_split_ands; go_simp) <;> (try with_reducible rfl)))
    try simp only [Act.put, List.setIfInBounds_toArray, List.set_cons_zero, List.set_cons_succ]
    (refine wpZ_take (i := 1) (oi := ⟨some 51, .fieldAddr 29 (.tmp 3) 1, 0, _, _, none⟩) (v := ?_) rfl (by kernel_rfl) (fun _ _ _ h => h) (by assumption) (Or.inl ⟨by rfl, ?_⟩) ?_; rotate_left 1; · ((intro w hSw; (try dsimp only at hSw); go_split_ands; go_simp) <;> (try with_reducible rfl)))
    try simp only [Act.put, List.setIfInBounds_toArray, List.set_cons_zero, List.set_cons_succ]
    (refine wpZ_take (i := 2) (oi := ⟨some 52, .load 25 (.tmp 51), 25, _, _, none⟩) (v := ?_) rfl (by kernel_rfl) (fun _ _ _ h => h) (by assumption) (Or.inl ⟨by rfl, ?_⟩) ?_; rotate_left 1; · ((intro w hSw; (try dsimp only at hSw); go_split_ands; go_simp) <;> (try with_reducible rfl)))
    try simp only [Act.put, List.setIfInBounds_toArray, List.set_cons_zero, List.set_cons_succ]
    (refine wpZ_take (i := 3) (oi := ⟨some 53, .move (.tmp 5), 107, _, _, none⟩) (v := ?_) rfl (by kernel_rfl) (fun _ _ _ h => h) (by assumption) (Or.inl ⟨by rfl, ?_⟩) ?_; rotate_left 1; · ((intro w hSw; (try dsimp only at hSw); go_split_ands; go_simp) <;> (try with_reducible rfl)))
    try simp only [Act.put, List.setIfInBounds_toArray, List.set_cons_zero, List.set_cons_succ]
    (refine wpZ_take (i := 4) (oi := ⟨some 54, .nilCheck (.tmp 53), 0, _, _, none⟩) (v := ?_) rfl (by kernel_rfl) (fun _ _ _ h => h) (by assumption) (Or.inl ⟨by rfl, ?_⟩) ?_; rotate_left 1; · ((intro w hSw; (try dsimp only at hSw); go_split_ands; go_simp) <;> (try with_reducible rfl)))
    try simp only [Act.put, List.setIfInBounds_toArray, List.set_cons_zero, List.set_cons_succ]
    (refine wpZ_take (i := 5) (oi := ⟨some 55, .fieldAddr 113 (.tmp 54) 4, 0, _, _, none⟩) (v := ?_) rfl (by kernel_rfl) (fun _ _ _ h => h) (by assumption) (Or.inl ⟨by rfl, ?_⟩) ?_; rotate_left 1; · ((intro w hSw; (try dsimp only at hSw); go_split_ands; go_simp) <;> (try with_reducible rfl)))
    try simp only [Act.put, List.setIfInBounds_toArray, List.set_cons_zero, List.set_cons_succ]
    (refine wpZ_take (i := 6) (oi := ⟨some 56, .load 57 (.tmp 55), 57, _, _, none⟩) (v := ?_) rfl (by kernel_rfl) (fun _ _ _ h => h) (by assumption) (Or.inl ⟨by rfl, ?_⟩) ?_; rotate_left 1; · ((intro w hSw; (try dsimp only at hSw); go_split_ands; go_simp) <;> (try with_reducible rfl)))
    try simp only [Act.put, List.setIfInBounds_toArray, List.set_cons_zero, List.set_cons_succ]
    (refine wpZ_take (i := 7) (oi := ⟨some 57, .call { callee := .builtin .len, args := #[.tmp 56], argTypes := #[57] }, 3, _, _, none⟩) (v := ?_) rfl (by kernel_rfl) (fun _ _ _ h => h) (by assumption) (Or.inl ⟨by rfl, ?_⟩) ?_; rotate_left 1; · ((intro w hSw; (try dsimp only at hSw); go_split_ands; go_simp) <;> (try with_reducible rfl)))
    try simp only [Act.put, List.setIfInBounds_toArray, List.set_cons_zero, List.set_cons_succ]
    refine wpZ_one (i := 8) (oi := ⟨some 58, .call { callee := .value (.func 72), args := #[.tmp 52, .tmp 57], argTypes := #[25, 3] }, 4, _, _, none⟩) rfl (by kernel_rfl) (fun K hK => ?_)
    go_simp; refine (D1.out _).mono ?_; rintro e w3 ⟨rfl, rfl⟩; go_wp2_with fail
    refine hK.out _ _ (fun _ => by (first | exact ⟨f4, x1⟩ | exact hHeld)) (fun hh => ?_)
    have hHeld := hh rfl
    clear hK K
    try simp only [Act.put, List.setIfInBounds_toArray, List.set_cons_zero, List.set_cons_succ]
    (refine wpZ_take (i := 9) (oi := ⟨some 59, .unOp .not 4 (.tmp 58), 4, _, _, none⟩) (v := ?_) rfl (by kernel_rfl) (fun _ _ _ h => h) (by assumption) (Or.inl ⟨by rfl, ?_⟩) ?_; rotate_left 1; · ((intro w hSw; (try dsimp only at hSw); go_split_ands; go_simp) <;> (try with_reducible rfl)))
    try simp only [Act.put, List.setIfInBounds_toArray, List.set_cons_zero, List.set_cons_succ]
    refine wpZ_one (i := 10) (oi := ⟨some 60, .call { callee := .value (.func 39), args := #[.tmp 50, .tmp 59], argTypes := #[103, 4] }, 4, _, _, none⟩) rfl (by kernel_rfl) (fun K hK => ?_)
    go_simp; refine (HE.out w1.drew Q.out.drew).mono ?_; rintro e w3 ⟨rfl, ht⟩; have HT := Lib.hid (To.trans (Keep.refl _ _) (HR.out _ Q.out.drew) (fun _ h => h) ht); clear ht; go_wp2_with fail
    refine hK.out _ _ (fun h => by simp at h) (fun _ => ?_)
    clear hK K
    try simp only [Act.put, List.setIfInBounds_toArray, List.set_cons_zero, List.set_cons_succ]
    refine wpZ_one (i := 11) (oi := ⟨some 61, .unOp .not 4 (.tmp 60), 4, _, _, none⟩) rfl (by kernel_rfl) (fun K hK => ?_)
    go_simp
    refine hK.out _ _ (fun h => by simp at h) (fun _ => ?_)
    clear hK K
    try simp only [Act.put, List.setIfInBounds_toArray, List.set_cons_zero, List.set_cons_succ]
    refine wpZ_done (by kernel_rfl) ?_ _
    go_wp2; exact bodyPost_ret (v := .bool true) (by simp [results, Tryz.results44, go_sem]) rfl ⟨rfl, by rw [GE.out]; exact HT.out⟩

set_option maxRecDepth 100000 in
set_option maxHeartbeats 1000000 in
theorem places_gget (h : Md w S L u P M s) {k fB fc : Nat} {f : Fr} {sv vv lv bv : Value} {raws : List (Value × Value)} (hf : Frm w L u P s k f fB fc sv vv raws lv bv) (pre : Pre M s.i s.c k f) (hb : s.c.st.length ≤ 900000000) (x : Ins) (xl : Value) (hx : Ins.wf x) (hop : x.op = 35) :
    Calls Tryz.prog 44 #[.pointer (some ⟨P.mB, 0, none⟩), insV x xl] w (PlR w S L u P M s (some (getL s.i.glo x.a s.c, s.i))) := by
  unfold insV
  have HF := Lib.hid (fun (w' : World) (q : Still w w') => frame_c (h.still q) (hf.still q) pre.k)
  have HR := Lib.hid (fun (w' : World) (q : Still w w') => (q.ro h.sep.lt))
  obtain ⟨n, hn⟩ := Int.eq_ofNat_of_zero_le hx.a.1
  have hn2 : n < 4294967296 := by have := hx.a.2; omega
  rw [hn]
  obtain ⟨mc, tA, fA, cA, bA, tc, fc', cc, bc, mv, tv, gv, ev, dv, hi⟩ := h.inx
  have hm1 := hi.m1
  have hi16 := hi.i16
  have hlr : Row w 26 1 gv (ints .u64 s.i.glo) := h.sep.holds _ _ hi.glo
  have hlr' := hlr
  obtain ⟨A, n0, c, rfl, h1, h2, h3, h4, h5⟩ := hlr'
  rw [ints_len, Nat.mul_one] at h1
  subst h1
  have hml : s.i.glo.length ≤ maxLen := Nat.le_trans h3 h4
  clear hi
  have HS := Lib.hid (fun (b : Bool) (hb : decide ((n : Int) < (s.i.glo.length : Int)) = b) (w' : World) => has_c (n : Int) s.i.glo.length b (by omega) (by omega) hml hb w')
  have HE := Lib.hid (fun (w' : World) (q : Still w w') => stuck_yes (h.still q))
  have HPU := Lib.hid (fun (v : Int) (w' : World) (q : Still w w') => push1_c (h.still q) v (by omega))
  have LR := Lib.hid (And.intro hlr (And.intro hn (And.intro hm1 hi16)))
  have HH := Lib.hid (And.intro h (And.intro hf (And.intro pre (And.intro hb hx))))
  clear h hf pre hx hb h2 h3 h4 h5 hml hn2 hlr hm1 hi16
  go_enter Tryz.func44, Tryz.ntmps44
  go_wp2_with fail
  refine (HF.out _ ((Still.refl w).alloc _)).mono ?_
  rintro e w1 ⟨rfl, n1, rfl⟩
  have Q := Lib.hid (((Still.refl w).alloc (.cells #[.int .i64 x.op, .int .u32 (n : Int), .int .u32 x.b, .int .u64 x.n, xl, .int .i64 x.t] 29)).drewN n1)
  have x0 : ((w.alloc (.cells #[.int .i64 x.op, .int .u32 (n : Int), .int .u32 x.b, .int .u64 x.n, xl, .int .i64 x.t] 29)).drewN n1).cell? ⟨w.heap.size, 0, none⟩ = some (.int .i64 x.op) := by simp
  have x1 : ((w.alloc (.cells #[.int .i64 x.op, .int .u32 (n : Int), .int .u32 x.b, .int .u64 x.n, xl, .int .i64 x.t] 29)).drewN n1).cell? ⟨w.heap.size, 1, none⟩ = some (.int .u32 (n : Int)) := by simp
  have hsz : ((w.alloc (.cells #[.int .i64 x.op, .int .u32 (n : Int), .int .u32 x.b, .int .u64 x.n, xl, .int .i64 x.t] 29)).drewN n1).heap.size = w.heap.size + 1 := by simp
  try rw [hop] at *
  have hge : w.heap.size < ((w.alloc (.cells #[.int .i64 35, .int .u32 (n : Int), .int .u32 x.b, .int .u64 x.n, xl, .int .i64 x.t] 29)).drewN n1).heap.size := by simp
  clear HF hsz
  generalize ((w.alloc (.cells #[.int .i64 35, .int .u32 (n : Int), .int .u32 x.b, .int .u64 x.n, xl, .int .i64 x.t] 29)).drewN n1) = w1 at *
  have m1 := Q.out.cell LR.out.2.2.1
  have i16 := Q.out.cell LR.out.2.2.2
  have b1 := World.block_lt_of_cell? w1 _ x1
  have b2 := World.block_lt_of_cell? w1 _ m1
  have b3 := World.block_lt_of_cell? w1 _ i16
  clear hn
  by_cases hlt : n < s.i.glo.length
  · obtain ⟨v, hv⟩ : ∃ v, s.i.glo[n]? = some v := ⟨_, List.getElem?_eq_getElem hlt⟩
    obtain ⟨g, rfl, hvc⟩ : ∃ g, A = some ⟨g, 0, none⟩ ∧ w.cell? ⟨g, n, none⟩ = some (.int .u64 v) := by
      have hlr := LR.out.1
      obtain ⟨A', n', c', e1, h1, h2, h3, h4, h5⟩ := id hlr
      cases e1
      have hc : 0 < c := by omega
      obtain ⟨g, cur, rfl, _⟩ := h5 hc
      exact ⟨g, rfl, (Row.cell hlr hc n _ (ints_get _ _ _ _ hv)).1⟩
    have vc := Q.out.cell hvc
    have D1 := Lib.hid (HS.out true (decide_eq_true (by omega)))
    have g0 : (0 : Int) ≤ (n : Int) := by omega
    have g1 : (n : Int) < (s.i.glo.length : Int) := by omega
    have GE := Lib.hid (show getL s.i.glo (n : Int) s.c = pushI s.c v from by unfold getL; rw [Int.toNat_natCast, hv])
    clear hv hvc HS hlt HE
    go_wp2_with fail
    go_quiet (first | (go_at_call 72; (with_reducible exact Calls.quiet_of_same (D1.out _))) | (go_at_call 39; (with_reducible exact Calls.quiet_of_same (stuck_same _ _))))
    go_wp2_with fail
    replace m1 : (w1.drewN nq).cell? _ = _ := m1
    replace i16 : (w1.drewN nq).cell? _ = _ := i16
    replace x1 : (w1.drewN nq).cell? _ = _ := x1
    replace vc : (w1.drewN nq).cell? _ = _ := vc
    have Q2 := Lib.hid (Q.out.drewN nq)
    clear Q b1 b2 b3 hge
    generalize w1.drewN nq = w2 at *
    refine wp_region_z (fun w' => w'.cell? ⟨P.mB, 1, none⟩ = some (.pointer (some ⟨P.iB, 0, none⟩)) ∧ w'.cell? ⟨P.iB, 16, none⟩ = some (.slice (some ⟨g, 0, none⟩) s.i.glo.length c) ∧ w'.cell? ⟨w.heap.size, 1, none⟩ = some (.int .u32 (n : Int)) ∧ w'.cell? ⟨g, n, none⟩ = some (.int .u64 v)) (fun j => j == 13) (by kernel_rfl) ?_ (fun hHeld => ?_)
    · first | exact ⟨m1, i16, x1, vc⟩ | exact ⟨(World.cell?_alloc_some _ _ _ (Option.isSome_iff_exists.2 ⟨_, hHeld.1⟩)).trans hHeld.1, (World.cell?_alloc_some _ _ _ (Option.isSome_iff_exists.2 ⟨_, hHeld.2.1⟩)).trans hHeld.2.1, (World.cell?_alloc_some _ _ _ (Option.isSome_iff_exists.2 ⟨_, hHeld.2.2.1⟩)).trans hHeld.2.2.1, (World.cell?_alloc_some _ _ _ (Option.isSome_iff_exists.2 ⟨_, hHeld.2.2.2⟩)).trans hHeld.2.2.2⟩
    (refine wpZ_take (i := 0) (oi := ⟨some 132, .move (.tmp 0), 103, _, _, none⟩) (v := ?_) rfl (by kernel_rfl) (fun _ _ _ h => h) (by assumption) (Or.inl ⟨by rfl, ?_⟩) ?_; rotate_left 1; · ((intro w hSw; (try dsimp only at hSw); go_split_ands; go_simp) <;> (try with_reducible rfl)))
    try simp only [Act.put, List.setIfInBounds_toArray, List.set_cons_zero, List.set_cons_succ]
    (refine wpZ_take (i := 1) (oi := ⟨some 133, .move (.tmp 0), 103, _, _, none⟩) (v := ?_) rfl (by kernel_rfl) (fun _ _ _ h => h) (by assumption) (Or.inl ⟨by rfl, ?_⟩) ?_; rotate_left 1; · ((intro w hSw; (try dsimp only at hSw); go_split_ands; go_simp) <;> (try with_reducible rfl)))
    try simp only [Act.put, List.setIfInBounds_toArray, List.set_cons_zero, List.set_cons_succ]
    (refine wpZ_take (i := 2) (oi := ⟨some 134, .nilCheck (.tmp 133), 0, _, _, none⟩) (v := ?_) rfl (by kernel_rfl) (fun _ _ _ h => h) (by assumption) (Or.inl ⟨by rfl, ?_⟩) ?_; rotate_left 1; · ((intro w hSw; (try dsimp only at hSw); go_split_ands; go_simp) <;> (try with_reducible rfl)))
    try simp only [Act.put, List.setIfInBounds_toArray, List.set_cons_zero, List.set_cons_succ]
    (refine wpZ_take (i := 3) (oi := ⟨some 135, .fieldAddr 105 (.tmp 134) 1, 0, _, _, none⟩) (v := ?_) rfl (by kernel_rfl) (fun _ _ _ h => h) (by assumption) (Or.inl ⟨by rfl, ?_⟩) ?_; rotate_left 1; · ((intro w hSw; (try dsimp only at hSw); go_split_ands; go_simp) <;> (try with_reducible rfl)))
    try simp only [Act.put, List.setIfInBounds_toArray, List.set_cons_zero, List.set_cons_succ]
    (refine wpZ_take (i := 4) (oi := ⟨some 136, .load 53 (.tmp 135), 53, _, _, none⟩) (v := ?_) rfl (by kernel_rfl) (fun _ _ _ h => h) (by assumption) (Or.inl ⟨by rfl, ?_⟩) ?_; rotate_left 1; · ((intro w hSw; (try dsimp only at hSw); go_split_ands; go_simp) <;> (try with_reducible rfl)))
    try simp only [Act.put, List.setIfInBounds_toArray, List.set_cons_zero, List.set_cons_succ]
    (refine wpZ_take (i := 5) (oi := ⟨some 137, .nilCheck (.tmp 136), 0, _, _, none⟩) (v := ?_) rfl (by kernel_rfl) (fun _ _ _ h => h) (by assumption) (Or.inl ⟨by rfl, ?_⟩) ?_; rotate_left 1; · ((intro w hSw; (try dsimp only at hSw); go_split_ands; go_simp) <;> (try with_reducible rfl)))
    try simp only [Act.put, List.setIfInBounds_toArray, List.set_cons_zero, List.set_cons_succ]
    (refine wpZ_take (i := 6) (oi := ⟨some 138, .fieldAddr 67 (.tmp 137) 4, 0, _, _, none⟩) (v := ?_) rfl (by kernel_rfl) (fun _ _ _ h => h) (by assumption) (Or.inl ⟨by rfl, ?_⟩) ?_; rotate_left 1; · ((intro w hSw; (try dsimp only at hSw); go_split_ands; go_simp) <;> (try with_reducible rfl)))
    try simp only [Act.put, List.setIfInBounds_toArray, List.set_cons_zero, List.set_cons_succ]
    (refine wpZ_take (i := 7) (oi := ⟨some 139, .load 57 (.tmp 138), 57, _, _, none⟩) (v := ?_) rfl (by kernel_rfl) (fun _ _ _ h => h) (by assumption) (Or.inl ⟨by rfl, ?_⟩) ?_; rotate_left 1; · ((intro w hSw; (try dsimp only at hSw); go_split_ands; go_simp) <;> (try with_reducible rfl)))
    try simp only [Act.put, List.setIfInBounds_toArray, List.set_cons_zero, List.set_cons_succ]
    (refine wpZ_take (i := 8) (oi := ⟨some 140, .fieldAddr 29 (.tmp 3) 1, 0, _, _, none⟩) (v := ?_) rfl (by kernel_rfl) (fun _ _ _ h => h) (by assumption) (Or.inl ⟨by rfl, ?_⟩) ?_; rotate_left 1; · ((intro w hSw; (try dsimp only at hSw); go_split_ands; go_simp) <;> (try with_reducible rfl)))
    try simp only [Act.put, List.setIfInBounds_toArray, List.set_cons_zero, List.set_cons_succ]
    (refine wpZ_take (i := 9) (oi := ⟨some 141, .load 25 (.tmp 140), 25, _, _, none⟩) (v := ?_) rfl (by kernel_rfl) (fun _ _ _ h => h) (by assumption) (Or.inl ⟨by rfl, ?_⟩) ?_; rotate_left 1; · ((intro w hSw; (try dsimp only at hSw); go_split_ands; go_simp) <;> (try with_reducible rfl)))
    try simp only [Act.put, List.setIfInBounds_toArray, List.set_cons_zero, List.set_cons_succ]
    (refine wpZ_take (i := 10) (oi := ⟨some 142, .indexAddr 57 (.tmp 139) (.tmp 141), 0, _, _, none⟩) (v := ?_) rfl (by kernel_rfl) (fun _ _ _ h => h) (by assumption) (Or.inl ⟨by rfl, ?_⟩) ?_; rotate_left 1; · ((intro w hSw; (try dsimp only at hSw); go_split_ands; go_simp) <;> (try with_reducible rfl)))
    try simp only [Act.put, List.setIfInBounds_toArray, List.set_cons_zero, List.set_cons_succ]
    (refine wpZ_take (i := 11) (oi := ⟨some 143, .load 26 (.tmp 142), 26, _, _, none⟩) (v := ?_) rfl (by kernel_rfl) (fun _ _ _ h => h) (by assumption) (Or.inl ⟨by rfl, ?_⟩) ?_; rotate_left 1; · ((intro w hSw; (try dsimp only at hSw); go_split_ands; go_simp) <;> (try with_reducible rfl)))
    try simp only [Act.put, List.setIfInBounds_toArray, List.set_cons_zero, List.set_cons_succ]
    refine wpZ_one (i := 12) (oi := ⟨some 144, .buildSlice 57 1 #[(0, .tmp 143)], 57, _, _, none⟩) rfl (by kernel_rfl) (fun K hK => ?_)
    go_simp
    refine hK.out _ _ (fun _ => by (first | exact ⟨m1, i16, x1, vc⟩ | exact ⟨(World.cell?_alloc_some _ _ _ (Option.isSome_iff_exists.2 ⟨_, hHeld.1⟩)).trans hHeld.1, (World.cell?_alloc_some _ _ _ (Option.isSome_iff_exists.2 ⟨_, hHeld.2.1⟩)).trans hHeld.2.1, (World.cell?_alloc_some _ _ _ (Option.isSome_iff_exists.2 ⟨_, hHeld.2.2.1⟩)).trans hHeld.2.2.1, (World.cell?_alloc_some _ _ _ (Option.isSome_iff_exists.2 ⟨_, hHeld.2.2.2⟩)).trans hHeld.2.2.2⟩)) (fun hh => ?_)
    have hHeld := hh rfl
    clear hK K
    try simp only [Act.put, List.setIfInBounds_toArray, List.set_cons_zero, List.set_cons_succ]
    refine wpZ_one (i := 13) (oi := ⟨some 145, .call { callee := .value (.func 81), args := #[.tmp 132, .tmp 144], argTypes := #[103, 57] }, 0, _, _, none⟩) rfl (by kernel_rfl) (fun K hK => ?_)
    go_simp; refine (HPU.out v w2.drew Q2.out.drew).mono ?_; rintro e w3 ⟨rfl, ht⟩; have HT := Lib.hid (To.trans (Keep.refl _ _) (HR.out _ Q2.out.drew) (fun _ h => h) ht); clear ht; go_wp2_with fail
    refine hK.out _ _ (fun h => by simp at h) (fun _ => ?_)
    clear hK K
    try simp only [Act.put, List.setIfInBounds_toArray, List.set_cons_zero, List.set_cons_succ]
    refine wpZ_done (by kernel_rfl) ?_ _
    go_wp2; exact bodyPost_ret (v := .bool true) (by simp [results, Tryz.results44, go_sem]) rfl ⟨rfl, by rw [GE.out]; exact HT.out⟩
  · have D1 := Lib.hid (HS.out false (decide_eq_false (by omega)))
    have GE := Lib.hid (show getL s.i.glo (n : Int) s.c = endsC 17 from by unfold getL; rw [Int.toNat_natCast, List.getElem?_eq_none (by omega)])
    clear HS hlt HPU
    go_wp2_with fail
    refine wp_region_z (fun w' => w'.cell? ⟨P.mB, 1, none⟩ = some (.pointer (some ⟨P.iB, 0, none⟩)) ∧ w'.cell? ⟨P.iB, 16, none⟩ = some (.slice A s.i.glo.length c) ∧ w'.cell? ⟨w.heap.size, 1, none⟩ = some (.int .u32 (n : Int))) (fun j => j == 13 || j == 14) (by kernel_rfl) ?_ (fun hHeld => ?_)
    · first | exact ⟨m1, i16, x1⟩ | exact hHeld
    (refine wpZ_take (i := 0) (oi := ⟨some 117, .move (.tmp 0), 103, _, _, none⟩) (v := ?_) rfl (by kernel_rfl) (fun _ _ _ h => h) (by assumption) (Or.inl ⟨by rfl, ?_⟩) ?_; rotate_left 1; · ((intro w hSw; (try dsimp only at hSw); go_split_ands; go_simp) <;> (try with_reducible rfl)))
    try simp only [Act.put, List.setIfInBounds_toArray, List.set_cons_zero, List.set_cons_succ]
    (refine wpZ_take (i := 1) (oi := ⟨some 118, .fieldAddr 29 (.tmp 3) 1, 0, _, _, none⟩) (v := ?_) rfl (by kernel_rfl) (fun _ _ _ h => h) (by assumption) (Or.inl ⟨by rfl, ?_⟩) ?_; rotate_left 1; · ((intro w hSw; (try dsimp only at hSw); go_split_ands; go_simp) <;> (try with_reducible rfl)))
    try simp only [Act.put, List.setIfInBounds_toArray, List.set_cons_zero, List.set_cons_succ]
    (refine wpZ_take (i := 2) (oi := ⟨some 119, .load 25 (.tmp 118), 25, _, _, none⟩) (v := ?_) rfl (by kernel_rfl) (fun _ _ _ h => h) (by assumption) (Or.inl ⟨by rfl, ?_⟩) ?_; rotate_left 1; · ((intro w hSw; (try dsimp only at hSw); go_split_ands; go_simp) <;> (try with_reducible rfl)))
    try simp only [Act.put, List.setIfInBounds_toArray, List.set_cons_zero, List.set_cons_succ]
    (refine wpZ_take (i := 3) (oi := ⟨some 120, .move (.tmp 0), 103, _, _, none⟩) (v := ?_) rfl (by kernel_rfl) (fun _ _ _ h => h) (by assumption) (Or.inl ⟨by rfl, ?_⟩) ?_; rotate_left 1; · ((intro w hSw; (try dsimp only at hSw); go_split_ands; go_simp) <;> (try with_reducible rfl)))
    try simp only [Act.put, List.setIfInBounds_toArray, List.set_cons_zero, List.set_cons_succ]
    (refine wpZ_take (i := 4) (oi := ⟨some 121, .nilCheck (.tmp 120), 0, _, _, none⟩) (v := ?_) rfl (by kernel_rfl) (fun _ _ _ h => h) (by assumption) (Or.inl ⟨by rfl, ?_⟩) ?_; rotate_left 1; · ((intro w hSw; (try dsimp only at hSw); go_split_ands; go_simp) <;> (try with_reducible rfl)))
    try simp only [Act.put, List.setIfInBounds_toArray, List.set_cons_zero, List.set_cons_succ]
    (refine wpZ_take (i := 5) (oi := ⟨some 122, .fieldAddr 105 (.tmp 121) 1, 0, _, _, none⟩) (v := ?_) rfl (by kernel_rfl) (fun _ _ _ h => h) (by assumption) (Or.inl ⟨by rfl, ?_⟩) ?_; rotate_left 1; · ((intro w hSw; (try dsimp only at hSw); go_split_ands; go_simp) <;> (try with_reducible rfl)))
    try simp only [Act.put, List.setIfInBounds_toArray, List.set_cons_zero, List.set_cons_succ]
    (refine wpZ_take (i := 6) (oi := ⟨some 123, .load 53 (.tmp 122), 53, _, _, none⟩) (v := ?_) rfl (by kernel_rfl) (fun _ _ _ h => h) (by assumption) (Or.inl ⟨by rfl, ?_⟩) ?_; rotate_left 1; · ((intro w hSw; (try dsimp only at hSw); go_split_ands; go_simp) <;> (try with_reducible rfl)))
    try simp only [Act.put, List.setIfInBounds_toArray, List.set_cons_zero, List.set_cons_succ]
    (refine wpZ_take (i := 7) (oi := ⟨some 124, .nilCheck (.tmp 123), 0, _, _, none⟩) (v := ?_) rfl (by kernel_rfl) (fun _ _ _ h => h) (by assumption) (Or.inl ⟨by rfl, ?_⟩) ?_; rotate_left 1; · ((intro w hSw; (try dsimp only at hSw); go_split_ands; go_simp) <;> (try with_reducible rfl)))
    try simp only [Act.put, List.setIfInBounds_toArray, List.set_cons_zero, List.set_cons_succ]
    (refine wpZ_take (i := 8) (oi := ⟨some 125, .fieldAddr 67 (.tmp 124) 4, 0, _, _, none⟩) (v := ?_) rfl (by kernel_rfl) (fun _ _ _ h => h) (by assumption) (Or.inl ⟨by rfl, ?_⟩) ?_; rotate_left 1; · ((intro w hSw; (try dsimp only at hSw); go_split_ands; go_simp) <;> (try with_reducible rfl)))
    try simp only [Act.put, List.setIfInBounds_toArray, List.set_cons_zero, List.set_cons_succ]
    (refine wpZ_take (i := 9) (oi := ⟨some 126, .load 57 (.tmp 125), 57, _, _, none⟩) (v := ?_) rfl (by kernel_rfl) (fun _ _ _ h => h) (by assumption) (Or.inl ⟨by rfl, ?_⟩) ?_; rotate_left 1; · ((intro w hSw; (try dsimp only at hSw); go_split_ands; go_simp) <;> (try with_reducible rfl)))
    try simp only [Act.put, List.setIfInBounds_toArray, List.set_cons_zero, List.set_cons_succ]
    (refine wpZ_take (i := 10) (oi := ⟨some 127, .call { callee := .builtin .len, args := #[.tmp 126], argTypes := #[57] }, 3, _, _, none⟩) (v := ?_) rfl (by kernel_rfl) (fun _ _ _ h => h) (by assumption) (Or.inl ⟨by rfl, ?_⟩) ?_; rotate_left 1; · ((intro w hSw; (try dsimp only at hSw); go_split_ands; go_simp) <;> (try with_reducible rfl)))
    try simp only [Act.put, List.setIfInBounds_toArray, List.set_cons_zero, List.set_cons_succ]
    refine wpZ_one (i := 11) (oi := ⟨some 128, .call { callee := .value (.func 72), args := #[.tmp 119, .tmp 127], argTypes := #[25, 3] }, 4, _, _, none⟩) rfl (by kernel_rfl) (fun K hK => ?_)
    go_simp; refine (D1.out _).mono ?_; rintro e w3 ⟨rfl, rfl⟩; go_wp2_with fail
    refine hK.out _ _ (fun _ => by (first | exact ⟨m1, i16, x1⟩ | exact hHeld)) (fun hh => ?_)
    have hHeld := hh rfl
    clear hK K
    try simp only [Act.put, List.setIfInBounds_toArray, List.set_cons_zero, List.set_cons_succ]
    (refine wpZ_take (i := 12) (oi := ⟨some 129, .unOp .not 4 (.tmp 128), 4, _, _, none⟩) (v := ?_) rfl (by kernel_rfl) (fun _ _ _ h => h) (by assumption) (Or.inl ⟨by rfl, ?_⟩) ?_; rotate_left 1; · ((intro w hSw; (try dsimp only at hSw); go_split_ands; go_simp) <;> (try with_reducible rfl)))
    try simp only [Act.put, List.setIfInBounds_toArray, List.set_cons_zero, List.set_cons_succ]
    refine wpZ_one (i := 13) (oi := ⟨some 130, .call { callee := .value (.func 39), args := #[.tmp 117, .tmp 129], argTypes := #[103, 4] }, 4, _, _, none⟩) rfl (by kernel_rfl) (fun K hK => ?_)
    go_simp; refine (HE.out w1.drew Q.out.drew).mono ?_; rintro e w3 ⟨rfl, ht⟩; have HT := Lib.hid (To.trans (Keep.refl _ _) (HR.out _ Q.out.drew) (fun _ h => h) ht); clear ht; go_wp2_with fail
    refine hK.out _ _ (fun h => by simp at h) (fun _ => ?_)
    clear hK K
    try simp only [Act.put, List.setIfInBounds_toArray, List.set_cons_zero, List.set_cons_succ]
    refine wpZ_one (i := 14) (oi := ⟨some 131, .unOp .not 4 (.tmp 130), 4, _, _, none⟩) rfl (by kernel_rfl) (fun K hK => ?_)
    go_simp
    refine hK.out _ _ (fun h => by simp at h) (fun _ => ?_)
    clear hK K
    try simp only [Act.put, List.setIfInBounds_toArray, List.set_cons_zero, List.set_cons_succ]
    refine wpZ_done (by kernel_rfl) ?_ _
    go_wp2; exact bodyPost_ret (v := .bool true) (by simp [results, Tryz.results44, go_sem]) rfl ⟨rfl, by rw [GE.out]; exact HT.out⟩
end Go.Proofs.YtmnebeikafigjaaGreatDoor
