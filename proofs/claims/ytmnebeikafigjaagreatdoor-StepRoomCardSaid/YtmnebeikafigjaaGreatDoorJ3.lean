/- Lemmas of the walk, part 3. -/
import Derived.Test.YtmnebeikafigjaaGreatDoorJ2
/- step's machine: enters. -/
set_option linter.unusedVariables false
namespace Go.Proofs.YtmnebeikafigjaaGreatDoor
open Go.RowKit Go.Sep Go.St
variable {w : World} {S : Nat → Prop} {L : Key → Option Ck} {u : Nat} {P : Ptrs} {M : Mo} {s : Ms}
theorem Md.holds {w1 : World} (h : Md w S L u P M s) (q : Still w w1) : Md w1 (fun x => S x ∨ (w.heap.size ≤ x ∧ x < w1.heap.size)) L u P M s := by
  refine h.recfg ((h.sep.still q.1.1 q.2).more (fun k c b' e1 e2 => ?_) ?_) (q.ro h.sep.lt) (fun b h => .inl h) h.cfg (fun _ _ => rfl)
  · rintro (h1 | h1)
    · exact h.sep.ro k c b' e1 e2 h1
    · have := Ck.lt (h.sep.holds k c e1) e2
      omega
  · rintro b' (h1 | h1)
    · have := h.sep.lt b' h1
      have := q.1.1
      omega
    · exact h1.2
/-- A label is put on the last frame. -/
theorem labs_push {w6 w7 : World} {k fB fc : Nat} {f : Fr} {sv vv lv bv : Value} {raws : List (Value × Value)} (h : Md w S L u P M s) (hf : Frm w L u P s k f fB fc sv vv raws lv bv) (hk : s.c.frs.length = k + 1)
    (hs : Sep w6 S L) (ro : Ro S w w6) (x : Lb) {B : Value} (hr : Row w7 146 3 B (labC f.lab ++ [.int .i64 x.to, .int .i64 x.ar, .int .i64 x.ht])) (hg : w6.grownBy w7 (rowBlock bv))
    (ha : rowBlock B = rowBlock bv ∨ ∃ b, rowBlock B = some b ∧ w6.heap.size ≤ b) :
    To w S L u P M (w7.setCell ⟨fB, k * 6 + 5, none⟩ B) { s with c := setTop s.c { f with lab := f.lab ++ [x] } } := by
  have hr' : Row w7 146 3 B (labC (f.lab ++ [x])) := by
    have e : labC (f.lab ++ [x]) = labC f.lab ++ [.int .i64 x.to, .int .i64 x.ar, .int .i64 x.ht] := by simp [labC]
    rw [e]
    exact hr
  obtain ⟨s1, r1⟩ := hs.grow hf.lab hr' hg ha
  exact frame_put h hf hk s1 (ro.trans' r1) (fun q hq => upd_other _ _ hq) { f with lab := f.lab ++ [x] } B (upd_same _ _ _) rfl 5 _ (by omega) rfl
/-- What an append to the last frame's labels leaves. -/
theorem lab_tail {k fB fc m c : Nat} {A : Option Addr} {f : Fr} {sv vv lv : Value} {raws : List (Value × Value)} (h : Md w S L u P M s) (hf : Frm w L u P s k f fB fc sv vv raws lv (.slice A m c)) (hk : s.c.frs.length = k + 1) (x : Lb) :
    Row (w.drew.alloc (.cells #[.int .i64 x.to, .int .i64 x.ar, .int .i64 x.ht] 146)) 146 3 (.slice A m c) (labC f.lab) ∧
    Rd (w.drew.alloc (.cells #[.int .i64 x.to, .int .i64 x.ar, .int .i64 x.ht] 146)) 3 (some ⟨w.heap.size, 0, none⟩) 1 [.int .i64 x.to, .int .i64 x.ar, .int .i64 x.ht] ∧
    ∀ (B : Option Addr) (n6 c6 : Nat) (w7 : World), Row w7 146 3 (.slice B n6 c6) (labC f.lab ++ [.int .i64 x.to, .int .i64 x.ar, .int .i64 x.ht]) →
      (w.drew.alloc (.cells #[.int .i64 x.to, .int .i64 x.ar, .int .i64 x.ht] 146)).grownBy w7 (rowBlock (.slice A m c)) →
      (rowBlock (.slice B n6 c6) = rowBlock (.slice A m c) ∨ ∃ b, rowBlock (.slice B n6 c6) = some b ∧ (w.drew.alloc (.cells #[.int .i64 x.to, .int .i64 x.ar, .int .i64 x.ht] 146)).heap.size ≤ b) →
      To w S L u P M (w7.setCell ⟨fB, k * 6 + 5, none⟩ (.slice B n6 c6)) { s with c := setTop s.c { f with lab := f.lab ++ [x] } } ∧ w7.frozen? ⟨fB, k * 6 + 5, none⟩ = false ∧ (w7.cell? ⟨fB, k * 6 + 5, none⟩ = some (.slice A m c)) := by
  have sa : Still w (w.drew.alloc (.cells #[.int .i64 x.to, .int .i64 x.ar, .int .i64 x.ht] 146)) := (Still.refl w).drew.alloc _
  have hf' := hf.still sa
  have h' := h.still sa
  refine ⟨h'.sep.holds _ _ hf'.lab, ⟨rfl, fun _ => ⟨_, rfl, rfl, fun j v hv => ?_⟩⟩, fun B n6 c6 w7 hr hg ha => ?_⟩
  · rw [show (Addr.mk w.heap.size 0 none).add j = ⟨w.heap.size, j, none⟩ by unfold Addr.add; split <;> simp_all]
    have e : ∀ W : World, (W.alloc (.cells #[.int .i64 x.to, .int .i64 x.ar, .int .i64 x.ht] 146)).cell? ⟨W.heap.size, j, none⟩ = some v := fun W => by simpa using hv
    exact e w.drew
  · have hne : ∀ b, rowBlock (.slice A m c) = some b → b ≠ fB := by
      rintro b hb rfl
      exact h.sep.apart (.lab u k) (.fr u) _ _ (by simp) hf.lab hf.fr _ hb (show rowBlock (.slice (some ⟨b, 0, none⟩) (k + 1) fc) = some b by simp [rowBlock]; have := hf.le; omega)
    have hlt : fB < (w.drew.alloc (.cells #[.int .i64 x.to, .int .i64 x.ar, .int .i64 x.ht] 146)).heap.size := World.block_lt_of_cell? _ _ (hf'.cell 0 _ rfl)
    have hblk := hg.block fB hlt (fun e => hne _ e.symm rfl)
    exact ⟨labs_push h hf hk h'.sep (sa.ro h.sep.lt) x hr hg ha, (World.frozen?_of_block (a := ⟨fB, k * 6 + 5, none⟩) hblk).trans (hf'.frozen _), (World.cell?_of_block (a := ⟨fB, k * 6 + 5, none⟩) hblk).trans (hf'.cell 5 _ rfl)⟩
theorem signM_le {t : Int} {p r : Nat} (hw : Wf M) (h : signM M t = some (p, r)) : p ≤ 1000 := by
  unfold signM at h
  split at h
  · cases h; omega
  split at h
  · cases h; omega
  split at h
  · cases h
  · rename_i x hx
    cases h
    exact (hw.ps x (List.mem_of_getElem? hx)).2.1
def insV (x : Ins) (lv : Value) : Value := .agg #[.int .i64 x.op, .int .u32 x.a, .int .u32 x.b, .int .u64 x.n, lv, .int .i64 x.t]
set_option maxRecDepth 100000 in
set_option maxHeartbeats 1000000 in
theorem enters_c (at_ : Int) (hat : 0 ≤ at_ ∧ at_ ≤ 9223372036854775807) (h : Md w S L u P M s) {k fB fc : Nat} {f : Fr} {sv vv lv bv : Value} {raws : List (Value × Value)} (hf : Frm w L u P s k f fB fc sv vv raws lv bv) (hk : s.c.frs.length = k + 1) (hk2 : k ≤ 1000000) (ok : FrOk f) (hb : s.c.st.length ≤ 1000000000) (hU : U64 s.c.st)
    (bf : Int → Option (Int × Int)) (hbf : s.i.blocks[f.fn.toNat]? = some bf) (hbw : ∀ e, bf at_ = some e → (-1000000000 < e.1 ∧ e.1 < 1000000000) ∧ (-1000000000 < e.2 ∧ e.2 < 1000000000)) (x : Ins) (xl : Value) (hx : Ins.wf x) :
    Calls Tryz.prog 73 #[.pointer (some ⟨P.mB, 0, none⟩), insV x xl, .int .i64 at_] w fun e w' => e = .returned (.tuple #[]) ∧ To w S L u P M w' { s with c := enterC M bf s.c f x at_ } := by
  unfold insV
  generalize hC : enterC M bf s.c f x at_ = CR
  have HC := Lib.hid hC
  clear hC
  obtain ⟨mc, tA, fA, cA, bA, tc, fc', cc, bc, mv, tv, gv, ev, dv, hi⟩ := h.inx
  obtain ⟨bb, bo, mp, rfl, _, ⟨r, hmr, hSr, hlk⟩, cb⟩ := hi.blocks.get1 f.fn.toNat bf hbf
  obtain rfl : mp = .map (some r) := by simpa using hmr
  have HF := Lib.hid (fun (w' : World) (q : Still w w') => frame_c (h.still q) (hf.still q) hk2)
  have HSG := Lib.hid (fun (w' : World) (q : Still w w') => signature_c (h.still q) x.t hx.t _ rfl)
  have HE := Lib.hid (fun (w' : World) (q : Still w w') => stuck_yes (h.still q))
  have HR := Lib.hid (fun (w' : World) (q : Still w w') => (q.ro h.sep.lt))
  have hlt := h.sep.lt r hSr
  have HLK := Lib.hid (fun (w' : World) (q : Still w w') => hlk w' at_ hat.1 hat.2 (q.2 r hlt))
  have m1 := hi.m1
  have i13 := hi.i13
  have f0 := hf.cell 0 _ rfl
  obtain ⟨n, hn⟩ := Int.eq_ofNat_of_zero_le ok.fn.1
  rw [hn, Int.toNat_natCast] at hbf cb
  rw [hn, Nat.add_zero] at f0
  have g0 : (0 : Int) ≤ (n : Int) := by omega
  have g1 : (n : Int) < (s.i.blocks.length : Int) := by have := (List.getElem?_eq_some_iff.1 hbf).1; omega
  have HH := Lib.hid (And.intro h (And.intro hf (And.intro hk (And.intro hk2 (And.intro ok (And.intro hb (And.intro hU (And.intro hbw hx))))))))
  clear hat h hf hk hk2 ok hb hU hbf hx hbw hi hlk hlt hSr hmr hn
  go_enter Tryz.func73, Tryz.ntmps73
  go_wp2_with fail
  refine (HF.out _ ((Still.refl w).alloc _)).mono ?_
  rintro e w1 ⟨rfl, n1, rfl⟩
  have Q1 : Still w ((w.alloc (.cells #[.int .i64 x.op, .int .u32 x.a, .int .u32 x.b, .int .u64 x.n, xl, .int .i64 x.t] 29)).drewN n1) := ((Still.refl w).alloc _).drewN _
  have x0 : ((w.alloc (.cells #[.int .i64 x.op, .int .u32 x.a, .int .u32 x.b, .int .u64 x.n, xl, .int .i64 x.t] 29)).drewN n1).cell? ⟨w.heap.size, 0, none⟩ = some (.int .i64 x.op) := by simp
  have x5 : ((w.alloc (.cells #[.int .i64 x.op, .int .u32 x.a, .int .u32 x.b, .int .u64 x.n, xl, .int .i64 x.t] 29)).drewN n1).cell? ⟨w.heap.size, 5, none⟩ = some (.int .i64 x.t) := by simp
  replace m1 := Q1.cell m1
  replace i13 := Q1.cell i13
  replace f0 := Q1.cell f0
  replace cb := Q1.cell cb
  have Q := Lib.hid Q1
  clear Q1
  go_wp2_with fail
  generalize (w.alloc (.cells #[.int .i64 x.op, .int .u32 x.a, .int .u32 x.b, .int .u64 x.n, xl, .int .i64 x.t] 29)).drewN n1 = w1 at *
  generalize hxB : w.heap.size = xB at *
  have b1 := World.block_lt_of_cell? w1 _ m1
  have b2 := World.block_lt_of_cell? w1 _ i13
  have b3 := World.block_lt_of_cell? w1 _ f0
  have b4 := World.block_lt_of_cell? w1 _ cb
  have b5 := World.block_lt_of_cell? w1 _ x5
  have key : ∀ w' : World, Still w1 w' → Hid (Still w1 w') ∧ w'.cell? ⟨P.mB, 1, none⟩ = some (.pointer (some ⟨P.iB, 0, none⟩)) ∧ w'.cell? ⟨P.iB, 13, none⟩ = some (.slice (some ⟨bb, bo, none⟩) s.i.blocks.length bc) ∧ w'.cell? ⟨fB, k * 6, none⟩ = some (.int .i64 (n : Int)) ∧ w'.cell? ⟨bb, bo + n, none⟩ = some (.map (some r)) ∧
      (Instr.lookup 147 (.map (some r)) (.int .i64 at_) true).run Tryz.prog w' = .ok (.tuple #[.agg #[.int .i64 ((bf at_).getD (0, 0)).1, .int .i64 ((bf at_).getD (0, 0)).2], .bool (bf at_).isSome]) w' :=
    fun w' y => ⟨Lib.hid y, y.cell m1, y.cell i13, y.cell f0, y.cell cb, HLK.out _ (Q.out.trans y)⟩
  have KEY := Lib.hid key
  clear key
  refine wp_region_z (fun w' => Hid (Still w1 w') ∧ w'.cell? ⟨P.mB, 1, none⟩ = some (.pointer (some ⟨P.iB, 0, none⟩)) ∧ w'.cell? ⟨P.iB, 13, none⟩ = some (.slice (some ⟨bb, bo, none⟩) s.i.blocks.length bc) ∧ w'.cell? ⟨fB, k * 6, none⟩ = some (.int .i64 (n : Int)) ∧ w'.cell? ⟨bb, bo + n, none⟩ = some (.map (some r)) ∧ (Instr.lookup 147 (.map (some r)) (.int .i64 at_) true).run Tryz.prog w' = .ok (.tuple #[.agg #[.int .i64 ((bf at_).getD (0, 0)).1, .int .i64 ((bf at_).getD (0, 0)).2], .bool (bf at_).isSome]) w') (fun j => j == 20) (by kernel_rfl) ?_ (fun hHeld => ?_)
  · exact KEY.out _ (by repeat (first | exact hHeld.1.out | exact Still.refl _ | refine Still.drew ?_ | refine Still.alloc ?_ _ | refine Still.setNew ?_ _ _ (by simp)))
  (refine wpZ_take (i := 0) (oi := ⟨some 18, .move (.tmp 0), 103, _, _, none⟩) (v := ?_) rfl (by kernel_rfl) (fun _ _ _ h => h) (by assumption) (Or.inl ⟨by rfl, ?_⟩) ?_; rotate_left 1; · ((intro w hSw; (try dsimp only at hSw); go_split_ands; go_simp) <;> (try with_reducible rfl)))
  try simp only [Act.put, List.setIfInBounds_toArray, List.set_cons_zero, List.set_cons_succ]
  (refine wpZ_take (i := 1) (oi := ⟨some 19, .nilCheck (.tmp 18), 0, _, _, none⟩) (v := ?_) rfl (by kernel_rfl) (fun _ _ _ h => h) (by assumption) (Or.inl ⟨by rfl, ?_⟩) ?_; rotate_left 1; · ((intro w hSw; (try dsimp only at hSw); go_split_ands; go_simp) <;> (try with_reducible rfl)))
  try simp only [Act.put, List.setIfInBounds_toArray, List.set_cons_zero, List.set_cons_succ]
  (refine wpZ_take (i := 2) (oi := ⟨some 20, .fieldAddr 105 (.tmp 19) 1, 0, _, _, none⟩) (v := ?_) rfl (by kernel_rfl) (fun _ _ _ h => h) (by assumption) (Or.inl ⟨by rfl, ?_⟩) ?_; rotate_left 1; · ((intro w hSw; (try dsimp only at hSw); go_split_ands; go_simp) <;> (try with_reducible rfl)))
  try simp only [Act.put, List.setIfInBounds_toArray, List.set_cons_zero, List.set_cons_succ]
  (refine wpZ_take (i := 3) (oi := ⟨some 21, .load 53 (.tmp 20), 53, _, _, none⟩) (v := ?_) rfl (by kernel_rfl) (fun _ _ _ h => h) (by assumption) (Or.inl ⟨by rfl, ?_⟩) ?_; rotate_left 1; · ((intro w hSw; (try dsimp only at hSw); go_split_ands; go_simp) <;> (try with_reducible rfl)))
  try simp only [Act.put, List.setIfInBounds_toArray, List.set_cons_zero, List.set_cons_succ]
  (refine wpZ_take (i := 4) (oi := ⟨some 22, .nilCheck (.tmp 21), 0, _, _, none⟩) (v := ?_) rfl (by kernel_rfl) (fun _ _ _ h => h) (by assumption) (Or.inl ⟨by rfl, ?_⟩) ?_; rotate_left 1; · ((intro w hSw; (try dsimp only at hSw); go_split_ands; go_simp) <;> (try with_reducible rfl)))
  try simp only [Act.put, List.setIfInBounds_toArray, List.set_cons_zero, List.set_cons_succ]
  (refine wpZ_take (i := 5) (oi := ⟨some 23, .fieldAddr 67 (.tmp 22) 1, 0, _, _, none⟩) (v := ?_) rfl (by kernel_rfl) (fun _ _ _ h => h) (by assumption) (Or.inl ⟨by rfl, ?_⟩) ?_; rotate_left 1; · ((intro w hSw; (try dsimp only at hSw); go_split_ands; go_simp) <;> (try with_reducible rfl)))
  try simp only [Act.put, List.setIfInBounds_toArray, List.set_cons_zero, List.set_cons_succ]
  (refine wpZ_take (i := 6) (oi := ⟨some 24, .load 63 (.tmp 23), 63, _, _, none⟩) (v := ?_) rfl (by kernel_rfl) (fun _ _ _ h => h) (by assumption) (Or.inl ⟨by rfl, ?_⟩) ?_; rotate_left 1; · ((intro w hSw; (try dsimp only at hSw); go_split_ands; go_simp) <;> (try with_reducible rfl)))
  try simp only [Act.put, List.setIfInBounds_toArray, List.set_cons_zero, List.set_cons_succ]
  (refine wpZ_take (i := 7) (oi := ⟨some 25, .move (.tmp 6), 107, _, _, none⟩) (v := ?_) rfl (by kernel_rfl) (fun _ _ _ h => h) (by assumption) (Or.inl ⟨by rfl, ?_⟩) ?_; rotate_left 1; · ((intro w hSw; (try dsimp only at hSw); go_split_ands; go_simp) <;> (try with_reducible rfl)))
  try simp only [Act.put, List.setIfInBounds_toArray, List.set_cons_zero, List.set_cons_succ]
  (refine wpZ_take (i := 8) (oi := ⟨some 26, .nilCheck (.tmp 25), 0, _, _, none⟩) (v := ?_) rfl (by kernel_rfl) (fun _ _ _ h => h) (by assumption) (Or.inl ⟨by rfl, ?_⟩) ?_; rotate_left 1; · ((intro w hSw; (try dsimp only at hSw); go_split_ands; go_simp) <;> (try with_reducible rfl)))
  try simp only [Act.put, List.setIfInBounds_toArray, List.set_cons_zero, List.set_cons_succ]
  (refine wpZ_take (i := 9) (oi := ⟨some 27, .fieldAddr 113 (.tmp 26) 0, 0, _, _, none⟩) (v := ?_) rfl (by kernel_rfl) (fun _ _ _ h => h) (by assumption) (Or.inl ⟨by rfl, ?_⟩) ?_; rotate_left 1; · ((intro w hSw; (try dsimp only at hSw); go_split_ands; go_simp) <;> (try with_reducible rfl)))
  try simp only [Act.put, List.setIfInBounds_toArray, List.set_cons_zero, List.set_cons_succ]
  (refine wpZ_take (i := 10) (oi := ⟨some 28, .load 3 (.tmp 27), 3, _, _, none⟩) (v := ?_) rfl (by kernel_rfl) (fun _ _ _ h => h) (by assumption) (Or.inl ⟨by rfl, ?_⟩) ?_; rotate_left 1; · ((intro w hSw; (try dsimp only at hSw); go_split_ands; go_simp) <;> (try with_reducible rfl)))
  try simp only [Act.put, List.setIfInBounds_toArray, List.set_cons_zero, List.set_cons_succ]
  (refine wpZ_take (i := 11) (oi := ⟨some 29, .indexAddr 63 (.tmp 24) (.tmp 28), 0, _, _, none⟩) (v := ?_) rfl (by kernel_rfl) (fun _ _ _ h => h) (by assumption) (Or.inl ⟨by rfl, ?_⟩) ?_; rotate_left 1; · ((intro w hSw; (try dsimp only at hSw); go_split_ands; go_simp) <;> (try with_reducible rfl)))
  try simp only [Act.put, List.setIfInBounds_toArray, List.set_cons_zero, List.set_cons_succ]
  (refine wpZ_take (i := 12) (oi := ⟨some 30, .load 147 (.tmp 29), 147, _, _, none⟩) (v := ?_) rfl (by kernel_rfl) (fun _ _ _ h => h) (by assumption) (Or.inl ⟨by rfl, ?_⟩) ?_; rotate_left 1; · ((intro w hSw; (try dsimp only at hSw); go_split_ands; go_simp) <;> (try with_reducible rfl)))
  try simp only [Act.put, List.setIfInBounds_toArray, List.set_cons_zero, List.set_cons_succ]
  (refine wpZ_take (i := 13) (oi := ⟨some 31, .move (.tmp 2), 3, _, _, none⟩) (v := ?_) rfl (by kernel_rfl) (fun _ _ _ h => h) (by assumption) (Or.inl ⟨by rfl, ?_⟩) ?_; rotate_left 1; · ((intro w hSw; (try dsimp only at hSw); go_split_ands; go_simp) <;> (try with_reducible rfl)))
  try simp only [Act.put, List.setIfInBounds_toArray, List.set_cons_zero, List.set_cons_succ]
  (refine wpZ_take (i := 14) (oi := ⟨some 32, .lookup 147 (.tmp 30) (.tmp 31) true, 208, _, _, none⟩) (v := ?_) rfl (by kernel_rfl) (fun _ _ _ h => h) (by assumption) (Or.inl ⟨by rfl, ?_⟩) ?_; rotate_left 1; · ((intro w hSw; (try dsimp only at hSw); go_split_ands; go_simp) <;> (try with_reducible rfl)))
  try simp only [Act.put, List.setIfInBounds_toArray, List.set_cons_zero, List.set_cons_succ]
  (refine wpZ_take (i := 15) (oi := ⟨some 17, .move (.tmp 32), 208, _, _, none⟩) (v := ?_) rfl (by kernel_rfl) (fun _ _ _ h => h) (by assumption) (Or.inl ⟨by rfl, ?_⟩) ?_; rotate_left 1; · ((intro w hSw; (try dsimp only at hSw); go_split_ands; go_simp) <;> (try with_reducible rfl)))
  try simp only [Act.put, List.setIfInBounds_toArray, List.set_cons_zero, List.set_cons_succ]
  (refine wpZ_take (i := 16) (oi := ⟨some 33, .extract (.tmp 17) 0, 205, _, _, none⟩) (v := ?_) rfl (by kernel_rfl) (fun _ _ _ h => h) (by assumption) (Or.inl ⟨by rfl, ?_⟩) ?_; rotate_left 1; · ((intro w hSw; (try dsimp only at hSw); go_split_ands; go_simp) <;> (try with_reducible rfl)))
  try simp only [Act.put, List.setIfInBounds_toArray, List.set_cons_zero, List.set_cons_succ]
  (refine wpZ_take (i := 17) (oi := ⟨some 34, .extract (.tmp 17) 1, 4, _, _, none⟩) (v := ?_) rfl (by kernel_rfl) (fun _ _ _ h => h) (by assumption) (Or.inl ⟨by rfl, ?_⟩) ?_; rotate_left 1; · ((intro w hSw; (try dsimp only at hSw); go_split_ands; go_simp) <;> (try with_reducible rfl)))
  try simp only [Act.put, List.setIfInBounds_toArray, List.set_cons_zero, List.set_cons_succ]
  refine wpZ_one (i := 18) (oi := ⟨some 7, .alloc 205, 0, _, _, none⟩) rfl (by kernel_rfl) (fun K hK => ?_)
  go_simp
  refine hK.out _ _ (fun _ => by (exact KEY.out _ (by repeat (first | exact hHeld.1.out | exact Still.refl _ | refine Still.drew ?_ | refine Still.alloc ?_ _ | refine Still.setNew ?_ _ _ (by simp))))) (fun hh => ?_)
  have hHeld := hh rfl
  clear hK K
  try simp only [Act.put, List.setIfInBounds_toArray, List.set_cons_zero, List.set_cons_succ]
  refine wpZ_one (i := 19) (oi := ⟨none, .store 205 (.tmp 7) (.tmp 33), 0, _, _, none⟩) rfl (by kernel_rfl) (fun K hK => ?_)
  go_simp
  refine hK.out _ _ (fun _ => by (exact KEY.out _ (by repeat (first | exact hHeld.1.out | exact Still.refl _ | refine Still.drew ?_ | refine Still.alloc ?_ _ | refine Still.setNew ?_ _ _ (by simp))))) (fun hh => ?_)
  have hHeld := hh rfl
  clear hK K
  try simp only [Act.put, List.setIfInBounds_toArray, List.set_cons_zero, List.set_cons_succ]
  refine wpZ_one (i := 20) (oi := ⟨some 8, .assign (.tmp 34), 4, _, _, none⟩) rfl (by kernel_rfl) (fun K hK => ?_)
  go_simp
  refine hK.out _ _ (fun h => by simp at h) (fun _ => ?_)
  clear hK K
  try simp only [Act.put, List.setIfInBounds_toArray, List.set_cons_zero, List.set_cons_succ]
  refine wpZ_done (by kernel_rfl) ?_ _
  have HTB := Lib.hid (show xB ≤ w1.heap.size by rw [← hxB]; exact Q.out.1.1)
  have Q2 : Still w1 (w1.alloc (.cells #[.int .i64 ((bf at_).getD (0, 0)).1, .int .i64 ((bf at_).getD (0, 0)).2] 205)).drew := ((Still.refl w1).alloc _).drew
  have y0 : (w1.alloc (.cells #[.int .i64 ((bf at_).getD (0, 0)).1, .int .i64 ((bf at_).getD (0, 0)).2] 205)).drew.cell? ⟨w1.heap.size, 0, none⟩ = some (.int .i64 ((bf at_).getD (0, 0)).1) := by simp
  have y1 : (w1.alloc (.cells #[.int .i64 ((bf at_).getD (0, 0)).1, .int .i64 ((bf at_).getD (0, 0)).2] 205)).drew.cell? ⟨w1.heap.size, 1, none⟩ = some (.int .i64 ((bf at_).getD (0, 0)).2) := by simp
  replace x0 := Q2.cell x0
  replace x5 := Q2.cell x5
  have Q2 := Lib.hid (Q.out.trans Q2)
  clear hHeld m1 i13 f0 cb b1 b2 b3 b4 b5 KEY HLK Q HF
  generalize (w1.alloc (.cells #[.int .i64 ((bf at_).getD (0, 0)).1, .int .i64 ((bf at_).getD (0, 0)).2] 205)).drew = w2 at *
  generalize w1.heap.size = tB at *
  go_wp2_with fail
  refine (HSG.out _ Q2.out).mono ?_
  rintro e w3 ⟨rfl, hst⟩
  replace x0 := hst.cell x0
  replace y0 := hst.cell y0
  replace y1 := hst.cell y1
  have Q := Lib.hid (Q2.out.trans hst)
  clear hst Q2 HSG x5
  cases hbe : bf at_ with
  | none =>
    have hC := HC.out
    obtain rfl : endsC 17 = CR := by rw [← hC]; unfold enterC; rw [hbe]
    clear hC HH HC y0 y1 x0
    simp only [Option.isSome_none, Option.getD_none]
    go_wp2_with fail
    refine (HE.out _ Q.out).mono ?_
    rintro e w4 ⟨rfl, ht⟩
    have HT := Lib.hid (To.trans (Keep.refl _ _) (HR.out _ Q.out) (fun _ h => h) ht)
    clear ht
    go_wp2
    exact bodyPost_ret (v := .tuple #[]) (by simp [results, Tryz.results73, go_sem]) rfl ⟨rfl, HT.out⟩
  | some p =>
    obtain ⟨el, en⟩ := p
    rw [hbe] at y0 y1
    cases hsg : signM M x.t with
    | none =>
      have hC := HC.out
      obtain rfl : endsC 17 = CR := by rw [← hC]; unfold enterC; rw [hbe, hsg]
      clear hC HH HC y0 y1 x0
      simp only [Option.isSome_some, Option.isSome_none, Option.getD_some, Option.getD_none]
      go_wp2_with fail
      refine (HE.out _ Q.out).mono ?_
      rintro e w4 ⟨rfl, ht⟩
      have HT := Lib.hid (To.trans (Keep.refl _ _) (HR.out _ Q.out) (fun _ h => h) ht)
      clear ht
      go_wp2
      exact bodyPost_ret (v := .tuple #[]) (by simp [results, Tryz.results73, go_sem]) rfl ⟨rfl, HT.out⟩
    | some p =>
      obtain ⟨np, nr⟩ := p
      simp only [Option.isSome_some, Option.getD_some] at y0 y1 ⊢
      have HNP := Lib.hid (signM_le HH.out.1.wf hsg)
      by_cases h4 : x.op = 4
      · have d4 : (x.op == 4) = true := by rw [h4]; rfl
        have HD := Lib.hid (show ¬ x.op = 3 by omega)
        have d3 : (x.op == 3) = false := beq_eq_false_iff_ne.2 HD.out
        have HP := Lib.hid (pops_c (HH.out.1.holds Q.out) 1 (by omega) HH.out.2.2.2.2.2.1 _ rfl)
        have H4 := Lib.hid h4
        have HSG := Lib.hid hsg
        clear h4 hsg HE
        cases hp : popsC s.c 1 with
        | none =>
          rw [hp] at HP
          have hC := HC.out
          obtain rfl : endsC 17 = CR := by rw [← hC]; unfold enterC; rw [hbe, HSG.out]; simp only; rw [if_pos H4.out, hp]
          clear hC HC hp y0 y1 HH HSG hbe
          go_wp2_with (go_at_call 39; (with_reducible refine (stuck_no _ _).mono ?_); rintro e w2 ⟨rfl, rfl⟩)
          refine HP.out.mono ?_
          rintro e w4 ⟨rfl, ht⟩
          have HT := Lib.hid (To.trans (Keep.refl _ _) (HR.out _ Q.out) (fun _ h => .inl h) ht)
          clear ht
          go_wp2
          exact bodyPost_ret (v := .tuple #[]) (by simp [results, Tryz.results73, go_sem]) rfl ⟨rfl, HT.out⟩
        | some p =>
          obtain ⟨l, C1⟩ := p
          rw [hp] at HP
          obtain ⟨_, hl1, hl2, hC1⟩ := popsC_some hp
          obtain ⟨v, rfl⟩ : ∃ v, l = [v] := by
            have : l.length = 1 := by rw [hl2, List.length_drop]; have : (1 : Int).toNat = 1 := rfl; omega
            match l, this with
            | [v], _ => exact ⟨v, rfl⟩
          have hv : 0 ≤ v ∧ v < 18446744073709551616 := HH.out.2.2.2.2.2.2.1 v (List.mem_of_mem_drop (hl2 ▸ List.mem_singleton.2 rfl))
          have hfrs : C1.frs = s.c.frs := by rw [hC1]
          have hst1 : C1.st.length ≤ 1000000000 := by rw [hC1]; simp only [List.length_take]; have := HH.out.2.2.2.2.2.1; omega
          have HV := Lib.hid (And.intro hfrs hst1)
          have hu : IntKind.u32.wrap v = lowI v := by unfold lowI; rw [IntKind.wrap]; simp [IntKind.signed, IntKind.bits]
          have HPP := Lib.hid hp
          clear hl1 hl2 hC1 hv hfrs hst1 hp
          go_wp2_with (go_at_call 39; (with_reducible refine (stuck_no _ _).mono ?_); rintro e w2 ⟨rfl, rfl⟩)
          refine HP.out.mono ?_
          rintro e w4 ⟨B, n4, c4', rfl, S2, L2, h2, k2, ro2, hS2, rd2, sf2⟩
          obtain rfl : n4 = 1 := by
            obtain ⟨A', c', e, _⟩ := rd2
            cases e
            rfl
          obtain ⟨vb, vo, vv1, rfl, _, hvv, vc⟩ := rd2.get1 0 v rfl
          have hvv : [vv1] = [.int .u64 v] := hvv
          obtain rfl : vv1 = .int .u64 v := by simpa using hvv
          rw [Nat.add_zero] at vc
          obtain ⟨sv2, vv2, raws2, hf2⟩ := Frm.same HH.out.2.1 h2 sf2 HV.out.1 HH.out.2.2.1
          have sx3 := World.block_lt_of_cell? w3 _ x0
          have st3 := World.block_lt_of_cell? w3 _ y0
          replace x0 : w4.cell? ⟨xB, 0, none⟩ = some (.int .i64 x.op) := (World.cell?_of_block (a := ⟨xB, 0, none⟩) (ro2.2 xB (.inr ⟨Nat.le_of_eq hxB, World.block_lt_of_cell? w3 _ x0⟩))).trans x0
          replace y0 : w4.cell? ⟨tB, 0, none⟩ = some (.int .i64 el) := (World.cell?_of_block (a := ⟨tB, 0, none⟩) (ro2.2 tB (.inr ⟨by rw [hxB]; exact HTB.out, World.block_lt_of_cell? w3 _ y0⟩))).trans y0
          replace y1 : w4.cell? ⟨tB, 1, none⟩ = some (.int .i64 en) := (World.cell?_of_block (a := ⟨tB, 1, none⟩) (ro2.2 tB (.inr ⟨by rw [hxB]; exact HTB.out, World.block_lt_of_cell? w3 _ y1⟩))).trans y1
          have SX := Lib.hid (And.intro (hS2 xB (.inr ⟨Nat.le_of_eq hxB, sx3⟩)) (hS2 tB (.inr ⟨by rw [hxB]; exact HTB.out, st3⟩)))
          clear sx3 st3
          have ROK := Lib.hid (And.intro k2 (And.intro ((HR.out _ Q.out).trans ro2 (fun _ h => .inl h)) (fun b (hb : S b) => hS2 b (.inl hb))))
          have H2 := Lib.hid (And.intro h2 (And.intro hf2 ((congrArg List.length HV.out.1).trans HH.out.2.2.1)))
          have HB := Lib.hid (HH.out.2.2.2.2.2.2.2.1 _ hbe)
          clear h2 hf2 k2 ro2 hS2 rd2 sf2 hvv HP Q HR
          by_cases hl0 : lowI v = 0
          · have dl : (lowI v == 0) = true := by rw [hl0]; rfl
            have HL := Lib.hid hl0
            clear hl0
            have hi3 : IntKind.i64.wrap (en + 1) = en + 1 := IntWalk.i64_in _ (by have := HB.out; omega)
            have hi4 : IntKind.i64.wrap (el + 1) = el + 1 := IntWalk.i64_in _ (by have := HB.out; omega)
            have z1 := H2.out.2.1.frozen (k * 6 + 1)
            have f1 := H2.out.2.1.cell 1 _ rfl
            by_cases hel : el < 0
            · have de : decide (el < 0) = true := decide_eq_true hel
              have HEL := Lib.hid hel
              clear hel
              go_wp2_with fail
              have e : enterC M bf s.c f x at_ = setTop C1 { f with at_ := en + 1 } := by unfold enterC; rw [hbe, HSG.out]; simp only; rw [if_pos H4.out, HPP.out]; simp only; rw [if_pos (show lowI ([v].headD 0) = 0 from HL.out), if_pos HEL.out]
              have ht := frame_num H2.out.1 H2.out.2.1 H2.out.2.2 (en + 1)
              exact bodyPost_ret (v := .tuple #[]) (by simp [results, Tryz.results73, go_sem]) rfl ⟨rfl, by rw [← HC.out, e]; exact To.trans ROK.out.1 ROK.out.2.1 ROK.out.2.2 ht⟩
            · have de : decide (el < 0) = false := decide_eq_false hel
              have HEL := Lib.hid hel
              clear hel
              obtain ⟨S3, L3, raws3, h3, k3, ro3, hS3, hf3⟩ := frame_numF H2.out.1 H2.out.2.1 H2.out.2.2 (el + 1)
              have b1 := World.block_lt_of_cell? w4 _ f1
              have p0 : (w4.setCell ⟨fB, k * 6 + 1, none⟩ (.int .i64 (el + 1))).cell? ⟨xB, 0, none⟩ = some (.int .i64 x.op) := (World.cell?_of_block (a := ⟨xB, 0, none⟩) (ro3.2 xB SX.out.1)).trans x0
              have p1 : (w4.setCell ⟨fB, k * 6 + 1, none⟩ (.int .i64 (el + 1))).cell? ⟨tB, 1, none⟩ = some (.int .i64 en) := (World.cell?_of_block (a := ⟨tB, 1, none⟩) (ro3.2 tB SX.out.2)).trans y1
              have hk3 : ({ s with c := setTop C1 { f with at_ := el + 1 } } : Ms).c.frs.length = k + 1 := by have := H2.out.2.2; simp [setTop]; exact this
              have hb3 : (setTop C1 { f with at_ := el + 1 }).st.length ≤ 1000000000 := HV.out.2
              have TT := Lib.hid (And.intro h3 (And.intro hf3 (And.intro hk3 (And.intro hb3 (And.intro HH.out.2.2.2.2.1.ll HNP.out)))))
              have H3 := Lib.hid (And.intro h3 (And.intro k3 (And.intro ro3 hS3)))
              clear h3 hf3 k3 ro3 hS3 hk3 hb3
              go_wp2_with fail
              clear x0 y0 y1 z1 f1 b1
              have x0 := p0; have y1 := p1; clear p0 p1
              generalize w4.setCell ⟨fB, k * 6 + 1, none⟩ (.int .i64 (el + 1)) = w5 at *
              have y0 : True := trivial
              obtain ⟨h3, k3, ro3, hS3⟩ := H3.out
              have fin : ∀ (w5' w' : World) (lb : Lb), Still w5 w5' → (if x.op = 3 then (⟨at_, np, ((setTop C1 { f with at_ := el + 1 }).st.length : Int) - np⟩ : Lb) else ⟨en, nr, ((setTop C1 { f with at_ := el + 1 }).st.length : Int) - np⟩) = lb → To w5' S3 L3 u P M w' { s with c := setTop (setTop C1 { f with at_ := el + 1 }) { { f with at_ := el + 1 } with lab := f.lab ++ [lb] } } → To w S L u P M w' { s with c := CR } := by
                intro w5' w' lb q5 hlb ht
                have e : enterC M bf s.c f x at_ = enter2 (setTop C1 { f with at_ := el + 1 }) { f with at_ := el + 1 } x at_ en np nr := by unfold enterC; rw [hbe, HSG.out]; simp only; rw [if_pos H4.out, HPP.out]; simp only; rw [if_pos (show lowI ([v].headD 0) = 0 from HL.out), if_neg (by have := HEL.out; omega)]
                rw [← HC.out, e]
                unfold enter2
                rw [hlb]
                exact To.trans (ROK.out.1.trans k3) ((ROK.out.2.1.trans ro3 ROK.out.2.2).trans (q5.ro h3.sep.lt) (fun b hb => hS3 b (ROK.out.2.2 b hb))) (fun b hb => hS3 b (ROK.out.2.2 b hb)) ht
              have FIN := Lib.hid fin
              clear fin HC HH hbe HSG H4 HPP HV HB ROK H2 h3 k3 ro3 hS3 H3 hi3 hi4 de
              obtain ⟨h1, hf1, hk1, hb1, hl1, hnp⟩ := TT.out
              obtain ⟨fv4, vv4, A4, N4, c4, hs4⟩ := h1.stk
              have q0 := hs4.m0
              have q1 := hs4.c1
              have hN := hs4.len
              try dsimp only at hN hb1
              have hi2 : IntKind.i64.wrap ((N4 : Int) - (np : Int)) = (N4 : Int) - (np : Int) := IntWalk.i64_in _ (by omega)
              have key : ∀ w' : World, Still w5 w' → Hid (Still w5 w') ∧ w'.cell? ⟨P.mB, 0, none⟩ = some (.pointer (some ⟨P.cB, P.co, none⟩)) ∧ w'.cell? ⟨P.cB, P.co + 1, none⟩ = some (.slice A4 N4 c4) ∧ w'.cell? ⟨tB, 1, none⟩ = some (.int .i64 en) := fun w' y => ⟨Lib.hid y, y.cell q0, y.cell q1, y.cell y1⟩
              have KEY := Lib.hid key
              have HN := Lib.hid hN
              clear key h1 hf1 hk1 hb1 hl1 hnp hs4 hN q0 q1
              refine wp_region_z (fun w' => Hid (Still w5 w') ∧ w'.cell? ⟨P.mB, 0, none⟩ = some (.pointer (some ⟨P.cB, P.co, none⟩)) ∧ w'.cell? ⟨P.cB, P.co + 1, none⟩ = some (.slice A4 N4 c4) ∧ w'.cell? ⟨tB, 1, none⟩ = some (.int .i64 en)) (fun j => j == 15) (by kernel_rfl) ?_ (fun hHeld => ?_)
              · exact KEY.out _ (by repeat (first | exact hHeld.1.out | exact Still.refl _ | refine Still.drew ?_ | refine Still.alloc ?_ _ | refine Still.setNew ?_ _ _ (by simp)))
              (refine wpZ_take (i := 0) (oi := ⟨some 81, .fieldAddr 205 (.tmp 7) 1, 0, _, _, none⟩) (v := ?_) rfl (by kernel_rfl) (fun _ _ _ h => h) (by assumption) (Or.inl ⟨by rfl, ?_⟩) ?_; rotate_left 1; · ((intro w hSw; (try dsimp only at hSw); go_split_ands; go_simp) <;> (try with_reducible rfl)))
              try simp only [Act.put, List.setIfInBounds_toArray, List.set_cons_zero, List.set_cons_succ]
              (refine wpZ_take (i := 1) (oi := ⟨some 82, .load 3 (.tmp 81), 3, _, _, none⟩) (v := ?_) rfl (by kernel_rfl) (fun _ _ _ h => h) (by assumption) (Or.inl ⟨by rfl, ?_⟩) ?_; rotate_left 1; · ((intro w hSw; (try dsimp only at hSw); go_split_ands; go_simp) <;> (try with_reducible rfl)))
              try simp only [Act.put, List.setIfInBounds_toArray, List.set_cons_zero, List.set_cons_succ]
              (refine wpZ_take (i := 2) (oi := ⟨some 83, .move (.tmp 10), 3, _, _, none⟩) (v := ?_) rfl (by kernel_rfl) (fun _ _ _ h => h) (by assumption) (Or.inl ⟨by rfl, ?_⟩) ?_; rotate_left 1; · ((intro w hSw; (try dsimp only at hSw); go_split_ands; go_simp) <;> (try with_reducible rfl)))
              try simp only [Act.put, List.setIfInBounds_toArray, List.set_cons_zero, List.set_cons_succ]
              (refine wpZ_take (i := 3) (oi := ⟨some 84, .move (.tmp 0), 103, _, _, none⟩) (v := ?_) rfl (by kernel_rfl) (fun _ _ _ h => h) (by assumption) (Or.inl ⟨by rfl, ?_⟩) ?_; rotate_left 1; · ((intro w hSw; (try dsimp only at hSw); go_split_ands; go_simp) <;> (try with_reducible rfl)))
              try simp only [Act.put, List.setIfInBounds_toArray, List.set_cons_zero, List.set_cons_succ]
              (refine wpZ_take (i := 4) (oi := ⟨some 85, .nilCheck (.tmp 84), 0, _, _, none⟩) (v := ?_) rfl (by kernel_rfl) (fun _ _ _ h => h) (by assumption) (Or.inl ⟨by rfl, ?_⟩) ?_; rotate_left 1; · ((intro w hSw; (try dsimp only at hSw); go_split_ands; go_simp) <;> (try with_reducible rfl)))
              try simp only [Act.put, List.setIfInBounds_toArray, List.set_cons_zero, List.set_cons_succ]
              (refine wpZ_take (i := 5) (oi := ⟨some 86, .fieldAddr 105 (.tmp 85) 0, 0, _, _, none⟩) (v := ?_) rfl (by kernel_rfl) (fun _ _ _ h => h) (by assumption) (Or.inl ⟨by rfl, ?_⟩) ?_; rotate_left 1; · ((intro w hSw; (try dsimp only at hSw); go_split_ands; go_simp) <;> (try with_reducible rfl)))
              try simp only [Act.put, List.setIfInBounds_toArray, List.set_cons_zero, List.set_cons_succ]
              (refine wpZ_take (i := 6) (oi := ⟨some 87, .load 62 (.tmp 86), 62, _, _, none⟩) (v := ?_) rfl (by kernel_rfl) (fun _ _ _ h => h) (by assumption) (Or.inl ⟨by rfl, ?_⟩) ?_; rotate_left 1; · ((intro w hSw; (try dsimp only at hSw); go_split_ands; go_simp) <;> (try with_reducible rfl)))
              try simp only [Act.put, List.setIfInBounds_toArray, List.set_cons_zero, List.set_cons_succ]
              (refine wpZ_take (i := 7) (oi := ⟨some 88, .nilCheck (.tmp 87), 0, _, _, none⟩) (v := ?_) rfl (by kernel_rfl) (fun _ _ _ h => h) (by assumption) (Or.inl ⟨by rfl, ?_⟩) ?_; rotate_left 1; · ((intro w hSw; (try dsimp only at hSw); go_split_ands; go_simp) <;> (try with_reducible rfl)))
              try simp only [Act.put, List.setIfInBounds_toArray, List.set_cons_zero, List.set_cons_succ]
              (refine wpZ_take (i := 8) (oi := ⟨some 89, .fieldAddr 59 (.tmp 88) 1, 0, _, _, none⟩) (v := ?_) rfl (by kernel_rfl) (fun _ _ _ h => h) (by assumption) (Or.inl ⟨by rfl, ?_⟩) ?_; rotate_left 1; · ((intro w hSw; (try dsimp only at hSw); go_split_ands; go_simp) <;> (try with_reducible rfl)))
              try simp only [Act.put, List.setIfInBounds_toArray, List.set_cons_zero, List.set_cons_succ]
              (refine wpZ_take (i := 9) (oi := ⟨some 90, .load 57 (.tmp 89), 57, _, _, none⟩) (v := ?_) rfl (by kernel_rfl) (fun _ _ _ h => h) (by assumption) (Or.inl ⟨by rfl, ?_⟩) ?_; rotate_left 1; · ((intro w hSw; (try dsimp only at hSw); go_split_ands; go_simp) <;> (try with_reducible rfl)))
              try simp only [Act.put, List.setIfInBounds_toArray, List.set_cons_zero, List.set_cons_succ]
              (refine wpZ_take (i := 10) (oi := ⟨some 91, .call { callee := .builtin .len, args := #[.tmp 90], argTypes := #[57] }, 3, _, _, none⟩) (v := ?_) rfl (by kernel_rfl) (fun _ _ _ h => h) (by assumption) (Or.inl ⟨by rfl, ?_⟩) ?_; rotate_left 1; · ((intro w hSw; (try dsimp only at hSw); go_split_ands; go_simp) <;> (try with_reducible rfl)))
              try simp only [Act.put, List.setIfInBounds_toArray, List.set_cons_zero, List.set_cons_succ]
              (refine wpZ_take (i := 11) (oi := ⟨some 92, .move (.tmp 9), 3, _, _, none⟩) (v := ?_) rfl (by kernel_rfl) (fun _ _ _ h => h) (by assumption) (Or.inl ⟨by rfl, ?_⟩) ?_; rotate_left 1; · ((intro w hSw; (try dsimp only at hSw); go_split_ands; go_simp) <;> (try with_reducible rfl)))
              try simp only [Act.put, List.setIfInBounds_toArray, List.set_cons_zero, List.set_cons_succ]
              (refine wpZ_take (i := 12) (oi := ⟨some 93, .binOp .sub 3 (.tmp 91) (.tmp 92) 3, 3, _, _, none⟩) (v := ?_) rfl (by kernel_rfl) (fun _ _ _ h => h) (by assumption) (Or.inl ⟨by rfl, ?_⟩) ?_; rotate_left 1; · ((intro w hSw; (try dsimp only at hSw); go_split_ands; go_simp) <;> (try with_reducible rfl)))
              try simp only [Act.put, List.setIfInBounds_toArray, List.set_cons_zero, List.set_cons_succ]
              (refine wpZ_take (i := 13) (oi := ⟨some 94, .build 146 #[(0, .tmp 82), (1, .tmp 83), (2, .tmp 93)], 146, _, _, none⟩) (v := ?_) rfl (by kernel_rfl) (fun _ _ _ h => h) (by assumption) (Or.inl ⟨by rfl, ?_⟩) ?_; rotate_left 1; · ((intro w hSw; (try dsimp only at hSw); go_split_ands; go_simp) <;> (try with_reducible rfl)))
              try simp only [Act.put, List.setIfInBounds_toArray, List.set_cons_zero, List.set_cons_succ]
              refine wpZ_one (i := 14) (oi := ⟨some 14, .alloc 146, 0, _, _, none⟩) rfl (by kernel_rfl) (fun K hK => ?_)
              go_simp
              refine hK.out _ _ (fun _ => by (exact KEY.out _ (by repeat (first | exact hHeld.1.out | exact Still.refl _ | refine Still.drew ?_ | refine Still.alloc ?_ _ | refine Still.setNew ?_ _ _ (by simp))))) (fun hh => ?_)
              have hHeld := hh rfl
              clear hK K
              try simp only [Act.put, List.setIfInBounds_toArray, List.set_cons_zero, List.set_cons_succ]
              refine wpZ_one (i := 15) (oi := ⟨none, .store 146 (.tmp 14) (.tmp 94), 0, _, _, none⟩) rfl (by kernel_rfl) (fun K hK => ?_)
              go_simp
              refine hK.out _ _ (fun h => by simp at h) (fun _ => ?_)
              clear hK K
              try simp only [Act.put, List.setIfInBounds_toArray, List.set_cons_zero, List.set_cons_succ]
              refine wpZ_done (by kernel_rfl) ?_ _
              clear hHeld KEY
              generalize hW4 : (w5.alloc (.cells #[.int .i64 en, .int .i64 nr, .int .i64 ((N4 : Int) - (np : Int))] 146)).drew = wq
              have q4 : Still w5 wq := by rw [← hW4]; exact ((Still.refl w5).alloc _).drew
              have l0 : wq.cell? ⟨w5.heap.size, 0, none⟩ = some (.int .i64 en) := by rw [← hW4]; simp
              have l1 : wq.cell? ⟨w5.heap.size, 1, none⟩ = some (.int .i64 nr) := by rw [← hW4]; simp
              have l2 : wq.cell? ⟨w5.heap.size, 2, none⟩ = some (.int .i64 ((N4 : Int) - (np : Int))) := by rw [← hW4]; simp
              have z0 : ∀ j, wq.frozen? ⟨w5.heap.size, j, none⟩ = false := by intro j; rw [← hW4]; simp
              have z00 := z0 0
              have z01 := z0 1
              replace x0 := q4.cell x0
              have lx := World.block_lt_of_cell? wq _ x0
              have ll := World.block_lt_of_cell? wq _ l0
              have Q4 := Lib.hid q4
              clear hW4 z0 q4 y0 y1
              generalize hlB : w5.heap.size = lB at l0 l1 l2 z00 z01 ll ⊢
              have HLBE := Lib.hid hlB
              clear hlB
              go_wp2_with fail
              have Q5 := Q4
              have p0 := l0
              have p1 := l1
              have p2 := l2
              clear Q4 l0 l1 l2 z00 z01 x0 lx ll
              generalize wq = w6 at *
              obtain ⟨h1, hf1, hk1, hb1, hl1, hnp⟩ := TT.out
              have h5 := h1.still Q5.out
              have hf5 := hf1.still Q5.out
              obtain ⟨A5, c5, rfl, hmc5, _⟩ := hf5.lab_form h5
              have f5 := hf5.cell 5 _ rfl
              have FX := Lib.hid (lab_tail h5 hf5 hk1 ⟨en, nr, (N4 : Int) - (np : Int)⟩)
              have hlb : ∀ b, rowBlock (.slice A5 f.lab.length c5) = some b → b ≠ lB := by
                rintro b hb rfl
                have := Ck.lt (h1.sep.holds _ _ hf1.lab) (b := b) hb
                have := HLBE.out
                omega
              have HNE := Lib.hid hlb
              have HBT := Lib.hid (show ((labC f.lab).length + 3) * 24 ≤ 140737488355328 by rw [labC_len]; have hl1 : f.lab.length ≤ 1000000000 := hl1; omega)
              have HLBC := Lib.hid (show (if x.op = 3 then (⟨at_, np, ((setTop C1 { f with at_ := el + 1 }).st.length : Int) - np⟩ : Lb) else ⟨en, nr, ((setTop C1 { f with at_ := el + 1 }).st.length : Int) - np⟩) = ⟨en, nr, (N4 : Int) - np⟩ by rw [if_neg HD.out, HN.out])
              clear h1 hf1 hk1 hb1 hl1 hnp h5 hf5 hmc5 hlb hi2
              refine wp_region_z (fun w' => w'.cell? ⟨fB, k * 6 + 5, none⟩ = some (.slice A5 f.lab.length c5) ∧ w'.cell? ⟨lB, 0, none⟩ = some (.int .i64 en) ∧ w'.cell? ⟨lB, 1, none⟩ = some (.int .i64 nr) ∧ w'.cell? ⟨lB, 2, none⟩ = some (.int .i64 ((N4 : Int) - (np : Int)))) (fun j => j == 10) (by kernel_rfl) ?_ (fun hHeld => ?_)
              · first | exact ⟨f5, p0, p1, p2⟩ | exact qk2 | exact ⟨(World.cell?_alloc_some _ _ _ (Option.isSome_iff_exists.2 ⟨_, hHeld.1⟩)).trans hHeld.1, (World.cell?_alloc_some _ _ _ (Option.isSome_iff_exists.2 ⟨_, hHeld.2.1⟩)).trans hHeld.2.1, (World.cell?_alloc_some _ _ _ (Option.isSome_iff_exists.2 ⟨_, hHeld.2.2.1⟩)).trans hHeld.2.2.1, (World.cell?_alloc_some _ _ _ (Option.isSome_iff_exists.2 ⟨_, hHeld.2.2.2⟩)).trans hHeld.2.2.2⟩
              (refine wpZ_take (i := 0) (oi := ⟨some 102, .move (.tmp 6), 107, _, _, none⟩) (v := ?_) rfl (by kernel_rfl) (fun _ _ _ h => h) (by assumption) (Or.inl ⟨by rfl, ?_⟩) ?_; rotate_left 1; · ((intro w hSw; (try dsimp only at hSw); go_split_ands; go_simp) <;> (try with_reducible rfl)))
              try simp only [Act.put, List.setIfInBounds_toArray, List.set_cons_zero, List.set_cons_succ]
              (refine wpZ_take (i := 1) (oi := ⟨some 103, .move (.tmp 6), 107, _, _, none⟩) (v := ?_) rfl (by kernel_rfl) (fun _ _ _ h => h) (by assumption) (Or.inl ⟨by rfl, ?_⟩) ?_; rotate_left 1; · ((intro w hSw; (try dsimp only at hSw); go_split_ands; go_simp) <;> (try with_reducible rfl)))
              try simp only [Act.put, List.setIfInBounds_toArray, List.set_cons_zero, List.set_cons_succ]
              (refine wpZ_take (i := 2) (oi := ⟨some 104, .nilCheck (.tmp 103), 0, _, _, none⟩) (v := ?_) rfl (by kernel_rfl) (fun _ _ _ h => h) (by assumption) (Or.inl ⟨by rfl, ?_⟩) ?_; rotate_left 1; · ((intro w hSw; (try dsimp only at hSw); go_split_ands; go_simp) <;> (try with_reducible rfl)))
              try simp only [Act.put, List.setIfInBounds_toArray, List.set_cons_zero, List.set_cons_succ]
              (refine wpZ_take (i := 3) (oi := ⟨some 105, .fieldAddr 113 (.tmp 104) 5, 0, _, _, none⟩) (v := ?_) rfl (by kernel_rfl) (fun _ _ _ h => h) (by assumption) (Or.inl ⟨by rfl, ?_⟩) ?_; rotate_left 1; · ((intro w hSw; (try dsimp only at hSw); go_split_ands; go_simp) <;> (try with_reducible rfl)))
              try simp only [Act.put, List.setIfInBounds_toArray, List.set_cons_zero, List.set_cons_succ]
              (refine wpZ_take (i := 4) (oi := ⟨some 106, .load 111 (.tmp 105), 111, _, _, none⟩) (v := ?_) rfl (by kernel_rfl) (fun _ _ _ h => h) (by assumption) (Or.inl ⟨by rfl, ?_⟩) ?_; rotate_left 1; · ((intro w hSw; (try dsimp only at hSw); go_split_ands; go_simp) <;> (try with_reducible rfl)))
              try simp only [Act.put, List.setIfInBounds_toArray, List.set_cons_zero, List.set_cons_succ]
              (refine wpZ_take (i := 5) (oi := ⟨some 107, .load 146 (.tmp 14), 146, _, _, none⟩) (v := ?_) rfl (by kernel_rfl) (fun _ _ _ h => h) (by assumption) (Or.inl ⟨by rfl, ?_⟩) ?_; rotate_left 1; · ((intro w hSw; (try dsimp only at hSw); go_split_ands; go_simp) <;> (try with_reducible rfl)))
              try simp only [Act.put, List.setIfInBounds_toArray, List.set_cons_zero, List.set_cons_succ]
              refine wpZ_one (i := 6) (oi := ⟨some 108, .buildSlice 111 1 #[(0, .tmp 107)], 111, _, _, none⟩) rfl (by kernel_rfl) (fun K hK => ?_)
              go_simp
              refine hK.out _ _ (fun _ => by (first | exact ⟨f5, p0, p1, p2⟩ | exact qk2 | exact ⟨(World.cell?_alloc_some _ _ _ (Option.isSome_iff_exists.2 ⟨_, hHeld.1⟩)).trans hHeld.1, (World.cell?_alloc_some _ _ _ (Option.isSome_iff_exists.2 ⟨_, hHeld.2.1⟩)).trans hHeld.2.1, (World.cell?_alloc_some _ _ _ (Option.isSome_iff_exists.2 ⟨_, hHeld.2.2.1⟩)).trans hHeld.2.2.1, (World.cell?_alloc_some _ _ _ (Option.isSome_iff_exists.2 ⟨_, hHeld.2.2.2⟩)).trans hHeld.2.2.2⟩)) (fun hh => ?_)
              have hHeld := hh rfl
              clear hK K
              try simp only [Act.put, List.setIfInBounds_toArray, List.set_cons_zero, List.set_cons_succ]
              refine wpZ_one (i := 7) (oi := ⟨some 109, .call { callee := .builtin .append, args := #[.tmp 106, .tmp 108], argTypes := #[111, 111] }, 111, _, _, none⟩) rfl (by kernel_rfl) (fun K hK => ?_)
              refine step_append_row (by rfl) _ _ _ (by rfl) 146 3 _ 24 Tryz.underlying111 infoLb rfl (by omega) (by omega) (.slice A5 f.lab.length c5) _ (by rfl) _ 1 1 _ (by first | rfl | (simp [Act.eval]; done)) FX.out.1 FX.out.2.1 (by simp [Value.oneCell']) HBT.out ?_; intro B6 n6 c6 w7 hr6 hg6 ha6; obtain ⟨q1, q2, q3⟩ := FX.out.2.2 _ _ _ _ hr6.out hg6.out ha6.out; have qk2 := And.intro q3 (And.intro (hg6.out.cell hHeld.2.1 (fun e => HNE.out _ e.symm rfl)) (And.intro (hg6.out.cell hHeld.2.2.1 (fun e => HNE.out _ e.symm rfl)) (hg6.out.cell hHeld.2.2.2 (fun e => HNE.out _ e.symm rfl)))); have Q1 := Lib.hid q1; clear q1
              refine hK.out _ _ (fun _ => by (first | exact ⟨f5, p0, p1, p2⟩ | exact qk2 | exact ⟨(World.cell?_alloc_some _ _ _ (Option.isSome_iff_exists.2 ⟨_, hHeld.1⟩)).trans hHeld.1, (World.cell?_alloc_some _ _ _ (Option.isSome_iff_exists.2 ⟨_, hHeld.2.1⟩)).trans hHeld.2.1, (World.cell?_alloc_some _ _ _ (Option.isSome_iff_exists.2 ⟨_, hHeld.2.2.1⟩)).trans hHeld.2.2.1, (World.cell?_alloc_some _ _ _ (Option.isSome_iff_exists.2 ⟨_, hHeld.2.2.2⟩)).trans hHeld.2.2.2⟩)) (fun hh => ?_)
              have hHeld := hh rfl
              clear hK K
              try simp only [Act.put, List.setIfInBounds_toArray, List.set_cons_zero, List.set_cons_succ]
              (refine wpZ_take (i := 8) (oi := ⟨some 110, .nilCheck (.tmp 102), 0, _, _, none⟩) (v := ?_) rfl (by kernel_rfl) (fun _ _ _ h => h) (by assumption) (Or.inl ⟨by rfl, ?_⟩) ?_; rotate_left 1; · ((intro w hSw; (try dsimp only at hSw); go_split_ands; go_simp) <;> (try with_reducible rfl)))
              try simp only [Act.put, List.setIfInBounds_toArray, List.set_cons_zero, List.set_cons_succ]
              (refine wpZ_take (i := 9) (oi := ⟨some 111, .fieldAddr 113 (.tmp 110) 5, 0, _, _, none⟩) (v := ?_) rfl (by kernel_rfl) (fun _ _ _ h => h) (by assumption) (Or.inl ⟨by rfl, ?_⟩) ?_; rotate_left 1; · ((intro w hSw; (try dsimp only at hSw); go_split_ands; go_simp) <;> (try with_reducible rfl)))
              try simp only [Act.put, List.setIfInBounds_toArray, List.set_cons_zero, List.set_cons_succ]
              refine wpZ_one (i := 10) (oi := ⟨none, .store 111 (.tmp 111) (.tmp 109), 0, _, _, none⟩) rfl (by kernel_rfl) (fun K hK => ?_)
              go_simp
              refine hK.out _ _ (fun h => by simp at h) (fun _ => ?_)
              clear hK K
              try simp only [Act.put, List.setIfInBounds_toArray, List.set_cons_zero, List.set_cons_succ]
              refine wpZ_done (by kernel_rfl) ?_ _
              go_wp2; go_end0; exact ⟨rfl, FIN.out _ _ _ Q5.out HLBC.out Q1.out⟩
          · have dl : (lowI v == 0) = false := beq_eq_false_iff_ne.2 hl0
            have HL := Lib.hid hl0
            clear hl0
            have TT := Lib.hid (And.intro H2.out.1 (And.intro H2.out.2.1 (And.intro H2.out.2.2 (And.intro HV.out.2 (And.intro HH.out.2.2.2.2.1.ll HNP.out)))))
            have fin : ∀ (w5 w' : World) (lb : Lb), Still w4 w5 → (if x.op = 3 then (⟨at_, np, (C1.st.length : Int) - np⟩ : Lb) else ⟨en, nr, (C1.st.length : Int) - np⟩) = lb → To w5 S2 L2 u P M w' { s with c := setTop C1 { f with lab := f.lab ++ [lb] } } → To w S L u P M w' { s with c := CR } := by
              intro w5 w' lb q5 hlb ht
              have e : enterC M bf s.c f x at_ = enter2 C1 f x at_ en np nr := by unfold enterC; rw [hbe, HSG.out]; simp only; rw [if_pos H4.out, HPP.out]; simp only; rw [if_neg (show ¬ lowI ([v].headD 0) = 0 from HL.out)]
              rw [← HC.out, e]
              unfold enter2
              rw [hlb]
              exact To.trans ROK.out.1 (ROK.out.2.1.trans (q5.ro H2.out.1.sep.lt) ROK.out.2.2) ROK.out.2.2 ht
            have FIN := Lib.hid fin
            clear fin HC HH hbe HSG H4 HPP HV HB ROK H2
            go_wp2_with fail
            obtain ⟨h1, hf1, hk1, hb1, hl1, hnp⟩ := TT.out
            obtain ⟨fv4, vv4, A4, N4, c4, hs4⟩ := h1.stk
            have q0 := hs4.m0
            have q1 := hs4.c1
            have hN := hs4.len
            try dsimp only at hN hb1
            have hi2 : IntKind.i64.wrap ((N4 : Int) - (np : Int)) = (N4 : Int) - (np : Int) := IntWalk.i64_in _ (by omega)
            have key : ∀ w' : World, Still w4 w' → Hid (Still w4 w') ∧ w'.cell? ⟨P.mB, 0, none⟩ = some (.pointer (some ⟨P.cB, P.co, none⟩)) ∧ w'.cell? ⟨P.cB, P.co + 1, none⟩ = some (.slice A4 N4 c4) ∧ w'.cell? ⟨tB, 1, none⟩ = some (.int .i64 en) := fun w' y => ⟨Lib.hid y, y.cell q0, y.cell q1, y.cell y1⟩
            have KEY := Lib.hid key
            have HN := Lib.hid hN
            clear key h1 hf1 hk1 hb1 hl1 hnp hs4 hN q0 q1
            refine wp_region_z (fun w' => Hid (Still w4 w') ∧ w'.cell? ⟨P.mB, 0, none⟩ = some (.pointer (some ⟨P.cB, P.co, none⟩)) ∧ w'.cell? ⟨P.cB, P.co + 1, none⟩ = some (.slice A4 N4 c4) ∧ w'.cell? ⟨tB, 1, none⟩ = some (.int .i64 en)) (fun j => j == 15) (by kernel_rfl) ?_ (fun hHeld => ?_)
            · exact KEY.out _ (by repeat (first | exact hHeld.1.out | exact Still.refl _ | refine Still.drew ?_ | refine Still.alloc ?_ _ | refine Still.setNew ?_ _ _ (by simp)))
            (refine wpZ_take (i := 0) (oi := ⟨some 81, .fieldAddr 205 (.tmp 7) 1, 0, _, _, none⟩) (v := ?_) rfl (by kernel_rfl) (fun _ _ _ h => h) (by assumption) (Or.inl ⟨by rfl, ?_⟩) ?_; rotate_left 1; · ((intro w hSw; (try dsimp only at hSw); go_split_ands; go_simp) <;> (try with_reducible rfl)))
            try simp only [Act.put, List.setIfInBounds_toArray, List.set_cons_zero, List.set_cons_succ]
            (refine wpZ_take (i := 1) (oi := ⟨some 82, .load 3 (.tmp 81), 3, _, _, none⟩) (v := ?_) rfl (by kernel_rfl) (fun _ _ _ h => h) (by assumption) (Or.inl ⟨by rfl, ?_⟩) ?_; rotate_left 1; · ((intro w hSw; (try dsimp only at hSw); go_split_ands; go_simp) <;> (try with_reducible rfl)))
            try simp only [Act.put, List.setIfInBounds_toArray, List.set_cons_zero, List.set_cons_succ]
            (refine wpZ_take (i := 2) (oi := ⟨some 83, .move (.tmp 10), 3, _, _, none⟩) (v := ?_) rfl (by kernel_rfl) (fun _ _ _ h => h) (by assumption) (Or.inl ⟨by rfl, ?_⟩) ?_; rotate_left 1; · ((intro w hSw; (try dsimp only at hSw); go_split_ands; go_simp) <;> (try with_reducible rfl)))
            try simp only [Act.put, List.setIfInBounds_toArray, List.set_cons_zero, List.set_cons_succ]
            (refine wpZ_take (i := 3) (oi := ⟨some 84, .move (.tmp 0), 103, _, _, none⟩) (v := ?_) rfl (by kernel_rfl) (fun _ _ _ h => h) (by assumption) (Or.inl ⟨by rfl, ?_⟩) ?_; rotate_left 1; · ((intro w hSw; (try dsimp only at hSw); go_split_ands; go_simp) <;> (try with_reducible rfl)))
            try simp only [Act.put, List.setIfInBounds_toArray, List.set_cons_zero, List.set_cons_succ]
            (refine wpZ_take (i := 4) (oi := ⟨some 85, .nilCheck (.tmp 84), 0, _, _, none⟩) (v := ?_) rfl (by kernel_rfl) (fun _ _ _ h => h) (by assumption) (Or.inl ⟨by rfl, ?_⟩) ?_; rotate_left 1; · ((intro w hSw; (try dsimp only at hSw); go_split_ands; go_simp) <;> (try with_reducible rfl)))
            try simp only [Act.put, List.setIfInBounds_toArray, List.set_cons_zero, List.set_cons_succ]
            (refine wpZ_take (i := 5) (oi := ⟨some 86, .fieldAddr 105 (.tmp 85) 0, 0, _, _, none⟩) (v := ?_) rfl (by kernel_rfl) (fun _ _ _ h => h) (by assumption) (Or.inl ⟨by rfl, ?_⟩) ?_; rotate_left 1; · ((intro w hSw; (try dsimp only at hSw); go_split_ands; go_simp) <;> (try with_reducible rfl)))
            try simp only [Act.put, List.setIfInBounds_toArray, List.set_cons_zero, List.set_cons_succ]
            (refine wpZ_take (i := 6) (oi := ⟨some 87, .load 62 (.tmp 86), 62, _, _, none⟩) (v := ?_) rfl (by kernel_rfl) (fun _ _ _ h => h) (by assumption) (Or.inl ⟨by rfl, ?_⟩) ?_; rotate_left 1; · ((intro w hSw; (try dsimp only at hSw); go_split_ands; go_simp) <;> (try with_reducible rfl)))
            try simp only [Act.put, List.setIfInBounds_toArray, List.set_cons_zero, List.set_cons_succ]
            (refine wpZ_take (i := 7) (oi := ⟨some 88, .nilCheck (.tmp 87), 0, _, _, none⟩) (v := ?_) rfl (by kernel_rfl) (fun _ _ _ h => h) (by assumption) (Or.inl ⟨by rfl, ?_⟩) ?_; rotate_left 1; · ((intro w hSw; (try dsimp only at hSw); go_split_ands; go_simp) <;> (try with_reducible rfl)))
            try simp only [Act.put, List.setIfInBounds_toArray, List.set_cons_zero, List.set_cons_succ]
            (refine wpZ_take (i := 8) (oi := ⟨some 89, .fieldAddr 59 (.tmp 88) 1, 0, _, _, none⟩) (v := ?_) rfl (by kernel_rfl) (fun _ _ _ h => h) (by assumption) (Or.inl ⟨by rfl, ?_⟩) ?_; rotate_left 1; · ((intro w hSw; (try dsimp only at hSw); go_split_ands; go_simp) <;> (try with_reducible rfl)))
            try simp only [Act.put, List.setIfInBounds_toArray, List.set_cons_zero, List.set_cons_succ]
            (refine wpZ_take (i := 9) (oi := ⟨some 90, .load 57 (.tmp 89), 57, _, _, none⟩) (v := ?_) rfl (by kernel_rfl) (fun _ _ _ h => h) (by assumption) (Or.inl ⟨by rfl, ?_⟩) ?_; rotate_left 1; · ((intro w hSw; (try dsimp only at hSw); go_split_ands; go_simp) <;> (try with_reducible rfl)))
            try simp only [Act.put, List.setIfInBounds_toArray, List.set_cons_zero, List.set_cons_succ]
            (refine wpZ_take (i := 10) (oi := ⟨some 91, .call { callee := .builtin .len, args := #[.tmp 90], argTypes := #[57] }, 3, _, _, none⟩) (v := ?_) rfl (by kernel_rfl) (fun _ _ _ h => h) (by assumption) (Or.inl ⟨by rfl, ?_⟩) ?_; rotate_left 1; · ((intro w hSw; (try dsimp only at hSw); go_split_ands; go_simp) <;> (try with_reducible rfl)))
            try simp only [Act.put, List.setIfInBounds_toArray, List.set_cons_zero, List.set_cons_succ]
            (refine wpZ_take (i := 11) (oi := ⟨some 92, .move (.tmp 9), 3, _, _, none⟩) (v := ?_) rfl (by kernel_rfl) (fun _ _ _ h => h) (by assumption) (Or.inl ⟨by rfl, ?_⟩) ?_; rotate_left 1; · ((intro w hSw; (try dsimp only at hSw); go_split_ands; go_simp) <;> (try with_reducible rfl)))
            try simp only [Act.put, List.setIfInBounds_toArray, List.set_cons_zero, List.set_cons_succ]
            (refine wpZ_take (i := 12) (oi := ⟨some 93, .binOp .sub 3 (.tmp 91) (.tmp 92) 3, 3, _, _, none⟩) (v := ?_) rfl (by kernel_rfl) (fun _ _ _ h => h) (by assumption) (Or.inl ⟨by rfl, ?_⟩) ?_; rotate_left 1; · ((intro w hSw; (try dsimp only at hSw); go_split_ands; go_simp) <;> (try with_reducible rfl)))
            try simp only [Act.put, List.setIfInBounds_toArray, List.set_cons_zero, List.set_cons_succ]
            (refine wpZ_take (i := 13) (oi := ⟨some 94, .build 146 #[(0, .tmp 82), (1, .tmp 83), (2, .tmp 93)], 146, _, _, none⟩) (v := ?_) rfl (by kernel_rfl) (fun _ _ _ h => h) (by assumption) (Or.inl ⟨by rfl, ?_⟩) ?_; rotate_left 1; · ((intro w hSw; (try dsimp only at hSw); go_split_ands; go_simp) <;> (try with_reducible rfl)))
            try simp only [Act.put, List.setIfInBounds_toArray, List.set_cons_zero, List.set_cons_succ]
            refine wpZ_one (i := 14) (oi := ⟨some 14, .alloc 146, 0, _, _, none⟩) rfl (by kernel_rfl) (fun K hK => ?_)
            go_simp
            refine hK.out _ _ (fun _ => by (exact KEY.out _ (by repeat (first | exact hHeld.1.out | exact Still.refl _ | refine Still.drew ?_ | refine Still.alloc ?_ _ | refine Still.setNew ?_ _ _ (by simp))))) (fun hh => ?_)
            have hHeld := hh rfl
            clear hK K
            try simp only [Act.put, List.setIfInBounds_toArray, List.set_cons_zero, List.set_cons_succ]
            refine wpZ_one (i := 15) (oi := ⟨none, .store 146 (.tmp 14) (.tmp 94), 0, _, _, none⟩) rfl (by kernel_rfl) (fun K hK => ?_)
            go_simp
            refine hK.out _ _ (fun h => by simp at h) (fun _ => ?_)
            clear hK K
            try simp only [Act.put, List.setIfInBounds_toArray, List.set_cons_zero, List.set_cons_succ]
            refine wpZ_done (by kernel_rfl) ?_ _
            clear hHeld KEY
            generalize hW4 : (w4.alloc (.cells #[.int .i64 en, .int .i64 nr, .int .i64 ((N4 : Int) - (np : Int))] 146)).drew = wq
            have q4 : Still w4 wq := by rw [← hW4]; exact ((Still.refl w4).alloc _).drew
            have l0 : wq.cell? ⟨w4.heap.size, 0, none⟩ = some (.int .i64 en) := by rw [← hW4]; simp
            have l1 : wq.cell? ⟨w4.heap.size, 1, none⟩ = some (.int .i64 nr) := by rw [← hW4]; simp
            have l2 : wq.cell? ⟨w4.heap.size, 2, none⟩ = some (.int .i64 ((N4 : Int) - (np : Int))) := by rw [← hW4]; simp
            have z0 : ∀ j, wq.frozen? ⟨w4.heap.size, j, none⟩ = false := by intro j; rw [← hW4]; simp
            have z00 := z0 0
            have z01 := z0 1
            replace x0 := q4.cell x0
            have lx := World.block_lt_of_cell? wq _ x0
            have ll := World.block_lt_of_cell? wq _ l0
            have Q4 := Lib.hid q4
            clear hW4 z0 q4 y0 y1
            generalize hlB : w4.heap.size = lB at l0 l1 l2 z00 z01 ll ⊢
            have HLBE := Lib.hid hlB
            clear hlB
            go_wp2_with fail
            have Q5 := Q4
            have p0 := l0
            have p1 := l1
            have p2 := l2
            clear Q4 l0 l1 l2 z00 z01 x0 lx ll
            generalize wq = w5 at *
            obtain ⟨h1, hf1, hk1, hb1, hl1, hnp⟩ := TT.out
            have h5 := h1.still Q5.out
            have hf5 := hf1.still Q5.out
            obtain ⟨A5, c5, rfl, hmc5, _⟩ := hf5.lab_form h5
            have f5 := hf5.cell 5 _ rfl
            have FX := Lib.hid (lab_tail h5 hf5 hk1 ⟨en, nr, (N4 : Int) - (np : Int)⟩)
            have hlb : ∀ b, rowBlock (.slice A5 f.lab.length c5) = some b → b ≠ lB := by
              rintro b hb rfl
              have := Ck.lt (h1.sep.holds _ _ hf1.lab) (b := b) hb
              have := HLBE.out
              omega
            have HNE := Lib.hid hlb
            have HBT := Lib.hid (show ((labC f.lab).length + 3) * 24 ≤ 140737488355328 by rw [labC_len]; have hl1 : f.lab.length ≤ 1000000000 := hl1; omega)
            have HLBC := Lib.hid (show (if x.op = 3 then (⟨at_, np, (C1.st.length : Int) - np⟩ : Lb) else ⟨en, nr, (C1.st.length : Int) - np⟩) = ⟨en, nr, (N4 : Int) - np⟩ by rw [if_neg HD.out, HN.out])
            clear h1 hf1 hk1 hb1 hl1 hnp h5 hf5 hmc5 hlb hi2
            refine wp_region_z (fun w' => w'.cell? ⟨fB, k * 6 + 5, none⟩ = some (.slice A5 f.lab.length c5) ∧ w'.cell? ⟨lB, 0, none⟩ = some (.int .i64 en) ∧ w'.cell? ⟨lB, 1, none⟩ = some (.int .i64 nr) ∧ w'.cell? ⟨lB, 2, none⟩ = some (.int .i64 ((N4 : Int) - (np : Int)))) (fun j => j == 10) (by kernel_rfl) ?_ (fun hHeld => ?_)
            · first | exact ⟨f5, p0, p1, p2⟩ | exact qk2 | exact ⟨(World.cell?_alloc_some _ _ _ (Option.isSome_iff_exists.2 ⟨_, hHeld.1⟩)).trans hHeld.1, (World.cell?_alloc_some _ _ _ (Option.isSome_iff_exists.2 ⟨_, hHeld.2.1⟩)).trans hHeld.2.1, (World.cell?_alloc_some _ _ _ (Option.isSome_iff_exists.2 ⟨_, hHeld.2.2.1⟩)).trans hHeld.2.2.1, (World.cell?_alloc_some _ _ _ (Option.isSome_iff_exists.2 ⟨_, hHeld.2.2.2⟩)).trans hHeld.2.2.2⟩
            (refine wpZ_take (i := 0) (oi := ⟨some 102, .move (.tmp 6), 107, _, _, none⟩) (v := ?_) rfl (by kernel_rfl) (fun _ _ _ h => h) (by assumption) (Or.inl ⟨by rfl, ?_⟩) ?_; rotate_left 1; · ((intro w hSw; (try dsimp only at hSw); go_split_ands; go_simp) <;> (try with_reducible rfl)))
            try simp only [Act.put, List.setIfInBounds_toArray, List.set_cons_zero, List.set_cons_succ]
            (refine wpZ_take (i := 1) (oi := ⟨some 103, .move (.tmp 6), 107, _, _, none⟩) (v := ?_) rfl (by kernel_rfl) (fun _ _ _ h => h) (by assumption) (Or.inl ⟨by rfl, ?_⟩) ?_; rotate_left 1; · ((intro w hSw; (try dsimp only at hSw); go_split_ands; go_simp) <;> (try with_reducible rfl)))
            try simp only [Act.put, List.setIfInBounds_toArray, List.set_cons_zero, List.set_cons_succ]
            (refine wpZ_take (i := 2) (oi := ⟨some 104, .nilCheck (.tmp 103), 0, _, _, none⟩) (v := ?_) rfl (by kernel_rfl) (fun _ _ _ h => h) (by assumption) (Or.inl ⟨by rfl, ?_⟩) ?_; rotate_left 1; · ((intro w hSw; (try dsimp only at hSw); go_split_ands; go_simp) <;> (try with_reducible rfl)))
            try simp only [Act.put, List.setIfInBounds_toArray, List.set_cons_zero, List.set_cons_succ]
            (refine wpZ_take (i := 3) (oi := ⟨some 105, .fieldAddr 113 (.tmp 104) 5, 0, _, _, none⟩) (v := ?_) rfl (by kernel_rfl) (fun _ _ _ h => h) (by assumption) (Or.inl ⟨by rfl, ?_⟩) ?_; rotate_left 1; · ((intro w hSw; (try dsimp only at hSw); go_split_ands; go_simp) <;> (try with_reducible rfl)))
            try simp only [Act.put, List.setIfInBounds_toArray, List.set_cons_zero, List.set_cons_succ]
            (refine wpZ_take (i := 4) (oi := ⟨some 106, .load 111 (.tmp 105), 111, _, _, none⟩) (v := ?_) rfl (by kernel_rfl) (fun _ _ _ h => h) (by assumption) (Or.inl ⟨by rfl, ?_⟩) ?_; rotate_left 1; · ((intro w hSw; (try dsimp only at hSw); go_split_ands; go_simp) <;> (try with_reducible rfl)))
            try simp only [Act.put, List.setIfInBounds_toArray, List.set_cons_zero, List.set_cons_succ]
            (refine wpZ_take (i := 5) (oi := ⟨some 107, .load 146 (.tmp 14), 146, _, _, none⟩) (v := ?_) rfl (by kernel_rfl) (fun _ _ _ h => h) (by assumption) (Or.inl ⟨by rfl, ?_⟩) ?_; rotate_left 1; · ((intro w hSw; (try dsimp only at hSw); go_split_ands; go_simp) <;> (try with_reducible rfl)))
            try simp only [Act.put, List.setIfInBounds_toArray, List.set_cons_zero, List.set_cons_succ]
            refine wpZ_one (i := 6) (oi := ⟨some 108, .buildSlice 111 1 #[(0, .tmp 107)], 111, _, _, none⟩) rfl (by kernel_rfl) (fun K hK => ?_)
            go_simp
            refine hK.out _ _ (fun _ => by (first | exact ⟨f5, p0, p1, p2⟩ | exact qk2 | exact ⟨(World.cell?_alloc_some _ _ _ (Option.isSome_iff_exists.2 ⟨_, hHeld.1⟩)).trans hHeld.1, (World.cell?_alloc_some _ _ _ (Option.isSome_iff_exists.2 ⟨_, hHeld.2.1⟩)).trans hHeld.2.1, (World.cell?_alloc_some _ _ _ (Option.isSome_iff_exists.2 ⟨_, hHeld.2.2.1⟩)).trans hHeld.2.2.1, (World.cell?_alloc_some _ _ _ (Option.isSome_iff_exists.2 ⟨_, hHeld.2.2.2⟩)).trans hHeld.2.2.2⟩)) (fun hh => ?_)
            have hHeld := hh rfl
            clear hK K
            try simp only [Act.put, List.setIfInBounds_toArray, List.set_cons_zero, List.set_cons_succ]
            refine wpZ_one (i := 7) (oi := ⟨some 109, .call { callee := .builtin .append, args := #[.tmp 106, .tmp 108], argTypes := #[111, 111] }, 111, _, _, none⟩) rfl (by kernel_rfl) (fun K hK => ?_)
            refine step_append_row (by rfl) _ _ _ (by rfl) 146 3 _ 24 Tryz.underlying111 infoLb rfl (by omega) (by omega) (.slice A5 f.lab.length c5) _ (by rfl) _ 1 1 _ (by first | rfl | (simp [Act.eval]; done)) FX.out.1 FX.out.2.1 (by simp [Value.oneCell']) HBT.out ?_; intro B6 n6 c6 w7 hr6 hg6 ha6; obtain ⟨q1, q2, q3⟩ := FX.out.2.2 _ _ _ _ hr6.out hg6.out ha6.out; have qk2 := And.intro q3 (And.intro (hg6.out.cell hHeld.2.1 (fun e => HNE.out _ e.symm rfl)) (And.intro (hg6.out.cell hHeld.2.2.1 (fun e => HNE.out _ e.symm rfl)) (hg6.out.cell hHeld.2.2.2 (fun e => HNE.out _ e.symm rfl)))); have Q1 := Lib.hid q1; clear q1
            refine hK.out _ _ (fun _ => by (first | exact ⟨f5, p0, p1, p2⟩ | exact qk2 | exact ⟨(World.cell?_alloc_some _ _ _ (Option.isSome_iff_exists.2 ⟨_, hHeld.1⟩)).trans hHeld.1, (World.cell?_alloc_some _ _ _ (Option.isSome_iff_exists.2 ⟨_, hHeld.2.1⟩)).trans hHeld.2.1, (World.cell?_alloc_some _ _ _ (Option.isSome_iff_exists.2 ⟨_, hHeld.2.2.1⟩)).trans hHeld.2.2.1, (World.cell?_alloc_some _ _ _ (Option.isSome_iff_exists.2 ⟨_, hHeld.2.2.2⟩)).trans hHeld.2.2.2⟩)) (fun hh => ?_)
            have hHeld := hh rfl
            clear hK K
            try simp only [Act.put, List.setIfInBounds_toArray, List.set_cons_zero, List.set_cons_succ]
            (refine wpZ_take (i := 8) (oi := ⟨some 110, .nilCheck (.tmp 102), 0, _, _, none⟩) (v := ?_) rfl (by kernel_rfl) (fun _ _ _ h => h) (by assumption) (Or.inl ⟨by rfl, ?_⟩) ?_; rotate_left 1; · ((intro w hSw; (try dsimp only at hSw); go_split_ands; go_simp) <;> (try with_reducible rfl)))
            try simp only [Act.put, List.setIfInBounds_toArray, List.set_cons_zero, List.set_cons_succ]
            (refine wpZ_take (i := 9) (oi := ⟨some 111, .fieldAddr 113 (.tmp 110) 5, 0, _, _, none⟩) (v := ?_) rfl (by kernel_rfl) (fun _ _ _ h => h) (by assumption) (Or.inl ⟨by rfl, ?_⟩) ?_; rotate_left 1; · ((intro w hSw; (try dsimp only at hSw); go_split_ands; go_simp) <;> (try with_reducible rfl)))
            try simp only [Act.put, List.setIfInBounds_toArray, List.set_cons_zero, List.set_cons_succ]
            refine wpZ_one (i := 10) (oi := ⟨none, .store 111 (.tmp 111) (.tmp 109), 0, _, _, none⟩) rfl (by kernel_rfl) (fun K hK => ?_)
            go_simp
            refine hK.out _ _ (fun h => by simp at h) (fun _ => ?_)
            clear hK K
            try simp only [Act.put, List.setIfInBounds_toArray, List.set_cons_zero, List.set_cons_succ]
            refine wpZ_done (by kernel_rfl) ?_ _
            go_wp2; go_end0; exact ⟨rfl, FIN.out _ _ _ Q5.out HLBC.out Q1.out⟩
      · have d4 : (x.op == 4) = false := beq_eq_false_iff_ne.2 h4
        obtain ⟨h, hf, hk, hk2, ok, hb, hU, hbw, hx⟩ := HH.out
        have TT := Lib.hid (And.intro (h.still Q.out) (And.intro (hf.still Q.out) (And.intro hk (And.intro hb (And.intro ok.ll HNP.out)))))
        have fin : ∀ (w5 w' : World) (lb : Lb), Still w3 w5 → (if x.op = 3 then (⟨at_, np, (s.c.st.length : Int) - np⟩ : Lb) else ⟨en, nr, (s.c.st.length : Int) - np⟩) = lb → To w5 S L u P M w' { s with c := setTop s.c { f with lab := f.lab ++ [lb] } } → To w S L u P M w' { s with c := CR } := by
          intro w5 w' lb q5 hlb ht
          have e : enterC M bf s.c f x at_ = enter2 s.c f x at_ en np nr := by unfold enterC; rw [hbe, hsg]; simp only; rw [if_neg h4]
          rw [← HC.out, e]
          unfold enter2
          rw [hlb]
          exact To.trans (Keep.refl _ _) (HR.out _ (Q.out.trans q5)) (fun _ h => h) ht
        have FIN := Lib.hid fin
        clear fin h hf hk hk2 ok hb hU hbw hx HC HR HH hbe hsg HE Q h4
        go_wp2_with (go_at_call 39; (with_reducible refine (stuck_no _ _).mono ?_); rintro e w2 ⟨rfl, rfl⟩)
        obtain ⟨h1, hf1, hk1, hb1, hl1, hnp⟩ := TT.out
        obtain ⟨fv4, vv4, A4, N4, c4, hs4⟩ := h1.stk
        have q0 := hs4.m0
        have q1 := hs4.c1
        have hN := hs4.len
        try dsimp only at hN hb1
        have hi2 : IntKind.i64.wrap ((N4 : Int) - (np : Int)) = (N4 : Int) - (np : Int) := IntWalk.i64_in _ (by omega)
        have key : ∀ w' : World, Still w3 w' → Hid (Still w3 w') ∧ w'.cell? ⟨P.mB, 0, none⟩ = some (.pointer (some ⟨P.cB, P.co, none⟩)) ∧ w'.cell? ⟨P.cB, P.co + 1, none⟩ = some (.slice A4 N4 c4) ∧ w'.cell? ⟨tB, 1, none⟩ = some (.int .i64 en) := fun w' y => ⟨Lib.hid y, y.cell q0, y.cell q1, y.cell y1⟩
        have KEY := Lib.hid key
        have HN := Lib.hid hN
        clear key h1 hf1 hk1 hb1 hl1 hnp hs4 hN q0 q1
        refine wp_region_z (fun w' => Hid (Still w3 w') ∧ w'.cell? ⟨P.mB, 0, none⟩ = some (.pointer (some ⟨P.cB, P.co, none⟩)) ∧ w'.cell? ⟨P.cB, P.co + 1, none⟩ = some (.slice A4 N4 c4) ∧ w'.cell? ⟨tB, 1, none⟩ = some (.int .i64 en)) (fun j => j == 15) (by kernel_rfl) ?_ (fun hHeld => ?_)
        · exact KEY.out _ (by repeat (first | exact hHeld.1.out | exact Still.refl _ | refine Still.drew ?_ | refine Still.alloc ?_ _ | refine Still.setNew ?_ _ _ (by simp)))
        (refine wpZ_take (i := 0) (oi := ⟨some 81, .fieldAddr 205 (.tmp 7) 1, 0, _, _, none⟩) (v := ?_) rfl (by kernel_rfl) (fun _ _ _ h => h) (by assumption) (Or.inl ⟨by rfl, ?_⟩) ?_; rotate_left 1; · ((intro w hSw; (try dsimp only at hSw); go_split_ands; go_simp) <;> (try with_reducible rfl)))
        try simp only [Act.put, List.setIfInBounds_toArray, List.set_cons_zero, List.set_cons_succ]
        (refine wpZ_take (i := 1) (oi := ⟨some 82, .load 3 (.tmp 81), 3, _, _, none⟩) (v := ?_) rfl (by kernel_rfl) (fun _ _ _ h => h) (by assumption) (Or.inl ⟨by rfl, ?_⟩) ?_; rotate_left 1; · ((intro w hSw; (try dsimp only at hSw); go_split_ands; go_simp) <;> (try with_reducible rfl)))
        try simp only [Act.put, List.setIfInBounds_toArray, List.set_cons_zero, List.set_cons_succ]
        (refine wpZ_take (i := 2) (oi := ⟨some 83, .move (.tmp 10), 3, _, _, none⟩) (v := ?_) rfl (by kernel_rfl) (fun _ _ _ h => h) (by assumption) (Or.inl ⟨by rfl, ?_⟩) ?_; rotate_left 1; · ((intro w hSw; (try dsimp only at hSw); go_split_ands; go_simp) <;> (try with_reducible rfl)))
        try simp only [Act.put, List.setIfInBounds_toArray, List.set_cons_zero, List.set_cons_succ]
        (refine wpZ_take (i := 3) (oi := ⟨some 84, .move (.tmp 0), 103, _, _, none⟩) (v := ?_) rfl (by kernel_rfl) (fun _ _ _ h => h) (by assumption) (Or.inl ⟨by rfl, ?_⟩) ?_; rotate_left 1; · ((intro w hSw; (try dsimp only at hSw); go_split_ands; go_simp) <;> (try with_reducible rfl)))
        try simp only [Act.put, List.setIfInBounds_toArray, List.set_cons_zero, List.set_cons_succ]
        (refine wpZ_take (i := 4) (oi := ⟨some 85, .nilCheck (.tmp 84), 0, _, _, none⟩) (v := ?_) rfl (by kernel_rfl) (fun _ _ _ h => h) (by assumption) (Or.inl ⟨by rfl, ?_⟩) ?_; rotate_left 1; · ((intro w hSw; (try dsimp only at hSw); go_split_ands; go_simp) <;> (try with_reducible rfl)))
        try simp only [Act.put, List.setIfInBounds_toArray, List.set_cons_zero, List.set_cons_succ]
        (refine wpZ_take (i := 5) (oi := ⟨some 86, .fieldAddr 105 (.tmp 85) 0, 0, _, _, none⟩) (v := ?_) rfl (by kernel_rfl) (fun _ _ _ h => h) (by assumption) (Or.inl ⟨by rfl, ?_⟩) ?_; rotate_left 1; · ((intro w hSw; (try dsimp only at hSw); go_split_ands; go_simp) <;> (try with_reducible rfl)))
        try simp only [Act.put, List.setIfInBounds_toArray, List.set_cons_zero, List.set_cons_succ]
        (refine wpZ_take (i := 6) (oi := ⟨some 87, .load 62 (.tmp 86), 62, _, _, none⟩) (v := ?_) rfl (by kernel_rfl) (fun _ _ _ h => h) (by assumption) (Or.inl ⟨by rfl, ?_⟩) ?_; rotate_left 1; · ((intro w hSw; (try dsimp only at hSw); go_split_ands; go_simp) <;> (try with_reducible rfl)))
        try simp only [Act.put, List.setIfInBounds_toArray, List.set_cons_zero, List.set_cons_succ]
        (refine wpZ_take (i := 7) (oi := ⟨some 88, .nilCheck (.tmp 87), 0, _, _, none⟩) (v := ?_) rfl (by kernel_rfl) (fun _ _ _ h => h) (by assumption) (Or.inl ⟨by rfl, ?_⟩) ?_; rotate_left 1; · ((intro w hSw; (try dsimp only at hSw); go_split_ands; go_simp) <;> (try with_reducible rfl)))
        try simp only [Act.put, List.setIfInBounds_toArray, List.set_cons_zero, List.set_cons_succ]
        (refine wpZ_take (i := 8) (oi := ⟨some 89, .fieldAddr 59 (.tmp 88) 1, 0, _, _, none⟩) (v := ?_) rfl (by kernel_rfl) (fun _ _ _ h => h) (by assumption) (Or.inl ⟨by rfl, ?_⟩) ?_; rotate_left 1; · ((intro w hSw; (try dsimp only at hSw); go_split_ands; go_simp) <;> (try with_reducible rfl)))
        try simp only [Act.put, List.setIfInBounds_toArray, List.set_cons_zero, List.set_cons_succ]
        (refine wpZ_take (i := 9) (oi := ⟨some 90, .load 57 (.tmp 89), 57, _, _, none⟩) (v := ?_) rfl (by kernel_rfl) (fun _ _ _ h => h) (by assumption) (Or.inl ⟨by rfl, ?_⟩) ?_; rotate_left 1; · ((intro w hSw; (try dsimp only at hSw); go_split_ands; go_simp) <;> (try with_reducible rfl)))
        try simp only [Act.put, List.setIfInBounds_toArray, List.set_cons_zero, List.set_cons_succ]
        (refine wpZ_take (i := 10) (oi := ⟨some 91, .call { callee := .builtin .len, args := #[.tmp 90], argTypes := #[57] }, 3, _, _, none⟩) (v := ?_) rfl (by kernel_rfl) (fun _ _ _ h => h) (by assumption) (Or.inl ⟨by rfl, ?_⟩) ?_; rotate_left 1; · ((intro w hSw; (try dsimp only at hSw); go_split_ands; go_simp) <;> (try with_reducible rfl)))
        try simp only [Act.put, List.setIfInBounds_toArray, List.set_cons_zero, List.set_cons_succ]
        (refine wpZ_take (i := 11) (oi := ⟨some 92, .move (.tmp 9), 3, _, _, none⟩) (v := ?_) rfl (by kernel_rfl) (fun _ _ _ h => h) (by assumption) (Or.inl ⟨by rfl, ?_⟩) ?_; rotate_left 1; · ((intro w hSw; (try dsimp only at hSw); go_split_ands; go_simp) <;> (try with_reducible rfl)))
        try simp only [Act.put, List.setIfInBounds_toArray, List.set_cons_zero, List.set_cons_succ]
        (refine wpZ_take (i := 12) (oi := ⟨some 93, .binOp .sub 3 (.tmp 91) (.tmp 92) 3, 3, _, _, none⟩) (v := ?_) rfl (by kernel_rfl) (fun _ _ _ h => h) (by assumption) (Or.inl ⟨by rfl, ?_⟩) ?_; rotate_left 1; · ((intro w hSw; (try dsimp only at hSw); go_split_ands; go_simp) <;> (try with_reducible rfl)))
        try simp only [Act.put, List.setIfInBounds_toArray, List.set_cons_zero, List.set_cons_succ]
        (refine wpZ_take (i := 13) (oi := ⟨some 94, .build 146 #[(0, .tmp 82), (1, .tmp 83), (2, .tmp 93)], 146, _, _, none⟩) (v := ?_) rfl (by kernel_rfl) (fun _ _ _ h => h) (by assumption) (Or.inl ⟨by rfl, ?_⟩) ?_; rotate_left 1; · ((intro w hSw; (try dsimp only at hSw); go_split_ands; go_simp) <;> (try with_reducible rfl)))
        try simp only [Act.put, List.setIfInBounds_toArray, List.set_cons_zero, List.set_cons_succ]
        refine wpZ_one (i := 14) (oi := ⟨some 14, .alloc 146, 0, _, _, none⟩) rfl (by kernel_rfl) (fun K hK => ?_)
        go_simp
        refine hK.out _ _ (fun _ => by (exact KEY.out _ (by repeat (first | exact hHeld.1.out | exact Still.refl _ | refine Still.drew ?_ | refine Still.alloc ?_ _ | refine Still.setNew ?_ _ _ (by simp))))) (fun hh => ?_)
        have hHeld := hh rfl
        clear hK K
        try simp only [Act.put, List.setIfInBounds_toArray, List.set_cons_zero, List.set_cons_succ]
        refine wpZ_one (i := 15) (oi := ⟨none, .store 146 (.tmp 14) (.tmp 94), 0, _, _, none⟩) rfl (by kernel_rfl) (fun K hK => ?_)
        go_simp
        refine hK.out _ _ (fun h => by simp at h) (fun _ => ?_)
        clear hK K
        try simp only [Act.put, List.setIfInBounds_toArray, List.set_cons_zero, List.set_cons_succ]
        refine wpZ_done (by kernel_rfl) ?_ _
        clear hHeld KEY
        generalize hW4 : (w3.alloc (.cells #[.int .i64 en, .int .i64 nr, .int .i64 ((N4 : Int) - (np : Int))] 146)).drew = wq
        have q4 : Still w3 wq := by rw [← hW4]; exact ((Still.refl w3).alloc _).drew
        have l0 : wq.cell? ⟨w3.heap.size, 0, none⟩ = some (.int .i64 en) := by rw [← hW4]; simp
        have l1 : wq.cell? ⟨w3.heap.size, 1, none⟩ = some (.int .i64 nr) := by rw [← hW4]; simp
        have l2 : wq.cell? ⟨w3.heap.size, 2, none⟩ = some (.int .i64 ((N4 : Int) - (np : Int))) := by rw [← hW4]; simp
        have z0 : ∀ j, wq.frozen? ⟨w3.heap.size, j, none⟩ = false := by intro j; rw [← hW4]; simp
        have z00 := z0 0
        have z01 := z0 1
        replace x0 := q4.cell x0
        have lx := World.block_lt_of_cell? wq _ x0
        have ll := World.block_lt_of_cell? wq _ l0
        have Q4 := Lib.hid q4
        clear hW4 z0 q4 y0 y1
        generalize hlB : w3.heap.size = lB at l0 l1 l2 z00 z01 ll ⊢
        have HLBE := Lib.hid hlB
        clear hlB
        by_cases h3 : x.op = 3
        · have d3 : (x.op == 3) = true := by rw [h3]; rfl
          have HD := Lib.hid h3
          clear h3
          go_wp2_with fail
          have q5 : Still w3 ((wq.setCell ⟨lB, 0, none⟩ (.int .i64 at_)).setCell ⟨lB, 1, none⟩ (.int .i64 np)) := (Q4.out.setNew _ _ (Nat.le_of_eq HLBE.out)).setNew _ _ (Nat.le_of_eq HLBE.out)
          have p0 : ((wq.setCell ⟨lB, 0, none⟩ (.int .i64 at_)).setCell ⟨lB, 1, none⟩ (.int .i64 np)).cell? ⟨lB, 0, none⟩ = some (.int .i64 at_) := by go_simp
          have p1 : ((wq.setCell ⟨lB, 0, none⟩ (.int .i64 at_)).setCell ⟨lB, 1, none⟩ (.int .i64 np)).cell? ⟨lB, 1, none⟩ = some (.int .i64 np) := by go_simp
          have p2 : ((wq.setCell ⟨lB, 0, none⟩ (.int .i64 at_)).setCell ⟨lB, 1, none⟩ (.int .i64 np)).cell? ⟨lB, 2, none⟩ = some (.int .i64 ((N4 : Int) - (np : Int))) := by go_simp
          have Q5 := Lib.hid q5
          clear q5 Q4 l0 l1 l2 z00 z01 x0 lx ll
          generalize ((wq.setCell ⟨lB, 0, none⟩ (.int .i64 at_)).setCell ⟨lB, 1, none⟩ (.int .i64 np)) = w5 at *
          obtain ⟨h1, hf1, hk1, hb1, hl1, hnp⟩ := TT.out
          have h5 := h1.still Q5.out
          have hf5 := hf1.still Q5.out
          obtain ⟨A5, c5, rfl, hmc5, _⟩ := hf5.lab_form h5
          have f5 := hf5.cell 5 _ rfl
          have FX := Lib.hid (lab_tail h5 hf5 hk1 ⟨at_, np, (N4 : Int) - (np : Int)⟩)
          have hlb : ∀ b, rowBlock (.slice A5 f.lab.length c5) = some b → b ≠ lB := by
            rintro b hb rfl
            have := Ck.lt (h1.sep.holds _ _ hf1.lab) (b := b) hb
            have := HLBE.out
            omega
          have HNE := Lib.hid hlb
          have HBT := Lib.hid (show ((labC f.lab).length + 3) * 24 ≤ 140737488355328 by rw [labC_len]; have hl1 : f.lab.length ≤ 1000000000 := hl1; omega)
          have HLBC := Lib.hid (show (if x.op = 3 then (⟨at_, np, (s.c.st.length : Int) - np⟩ : Lb) else ⟨en, nr, (s.c.st.length : Int) - np⟩) = ⟨at_, np, (N4 : Int) - np⟩ by rw [if_pos HD.out, HN.out])
          clear h1 hf1 hk1 hb1 hl1 hnp h5 hf5 hmc5 hlb hi2
          refine wp_region_z (fun w' => w'.cell? ⟨fB, k * 6 + 5, none⟩ = some (.slice A5 f.lab.length c5) ∧ w'.cell? ⟨lB, 0, none⟩ = some (.int .i64 at_) ∧ w'.cell? ⟨lB, 1, none⟩ = some (.int .i64 np) ∧ w'.cell? ⟨lB, 2, none⟩ = some (.int .i64 ((N4 : Int) - (np : Int)))) (fun j => j == 10) (by kernel_rfl) ?_ (fun hHeld => ?_)
          · first | exact ⟨f5, p0, p1, p2⟩ | exact qk2 | exact ⟨(World.cell?_alloc_some _ _ _ (Option.isSome_iff_exists.2 ⟨_, hHeld.1⟩)).trans hHeld.1, (World.cell?_alloc_some _ _ _ (Option.isSome_iff_exists.2 ⟨_, hHeld.2.1⟩)).trans hHeld.2.1, (World.cell?_alloc_some _ _ _ (Option.isSome_iff_exists.2 ⟨_, hHeld.2.2.1⟩)).trans hHeld.2.2.1, (World.cell?_alloc_some _ _ _ (Option.isSome_iff_exists.2 ⟨_, hHeld.2.2.2⟩)).trans hHeld.2.2.2⟩
          (refine wpZ_take (i := 0) (oi := ⟨some 102, .move (.tmp 6), 107, _, _, none⟩) (v := ?_) rfl (by kernel_rfl) (fun _ _ _ h => h) (by assumption) (Or.inl ⟨by rfl, ?_⟩) ?_; rotate_left 1; · ((intro w hSw; (try dsimp only at hSw); go_split_ands; go_simp) <;> (try with_reducible rfl)))
          try simp only [Act.put, List.setIfInBounds_toArray, List.set_cons_zero, List.set_cons_succ]
          (refine wpZ_take (i := 1) (oi := ⟨some 103, .move (.tmp 6), 107, _, _, none⟩) (v := ?_) rfl (by kernel_rfl) (fun _ _ _ h => h) (by assumption) (Or.inl ⟨by rfl, ?_⟩) ?_; rotate_left 1; · ((intro w hSw; (try dsimp only at hSw); go_split_ands; go_simp) <;> (try with_reducible rfl)))
          try simp only [Act.put, List.setIfInBounds_toArray, List.set_cons_zero, List.set_cons_succ]
          (refine wpZ_take (i := 2) (oi := ⟨some 104, .nilCheck (.tmp 103), 0, _, _, none⟩) (v := ?_) rfl (by kernel_rfl) (fun _ _ _ h => h) (by assumption) (Or.inl ⟨by rfl, ?_⟩) ?_; rotate_left 1; · ((intro w hSw; (try dsimp only at hSw); go_split_ands; go_simp) <;> (try with_reducible rfl)))
          try simp only [Act.put, List.setIfInBounds_toArray, List.set_cons_zero, List.set_cons_succ]
          (refine wpZ_take (i := 3) (oi := ⟨some 105, .fieldAddr 113 (.tmp 104) 5, 0, _, _, none⟩) (v := ?_) rfl (by kernel_rfl) (fun _ _ _ h => h) (by assumption) (Or.inl ⟨by rfl, ?_⟩) ?_; rotate_left 1; · ((intro w hSw; (try dsimp only at hSw); go_split_ands; go_simp) <;> (try with_reducible rfl)))
          try simp only [Act.put, List.setIfInBounds_toArray, List.set_cons_zero, List.set_cons_succ]
          (refine wpZ_take (i := 4) (oi := ⟨some 106, .load 111 (.tmp 105), 111, _, _, none⟩) (v := ?_) rfl (by kernel_rfl) (fun _ _ _ h => h) (by assumption) (Or.inl ⟨by rfl, ?_⟩) ?_; rotate_left 1; · ((intro w hSw; (try dsimp only at hSw); go_split_ands; go_simp) <;> (try with_reducible rfl)))
          try simp only [Act.put, List.setIfInBounds_toArray, List.set_cons_zero, List.set_cons_succ]
          (refine wpZ_take (i := 5) (oi := ⟨some 107, .load 146 (.tmp 14), 146, _, _, none⟩) (v := ?_) rfl (by kernel_rfl) (fun _ _ _ h => h) (by assumption) (Or.inl ⟨by rfl, ?_⟩) ?_; rotate_left 1; · ((intro w hSw; (try dsimp only at hSw); go_split_ands; go_simp) <;> (try with_reducible rfl)))
          try simp only [Act.put, List.setIfInBounds_toArray, List.set_cons_zero, List.set_cons_succ]
          refine wpZ_one (i := 6) (oi := ⟨some 108, .buildSlice 111 1 #[(0, .tmp 107)], 111, _, _, none⟩) rfl (by kernel_rfl) (fun K hK => ?_)
          go_simp
          refine hK.out _ _ (fun _ => by (first | exact ⟨f5, p0, p1, p2⟩ | exact qk2 | exact ⟨(World.cell?_alloc_some _ _ _ (Option.isSome_iff_exists.2 ⟨_, hHeld.1⟩)).trans hHeld.1, (World.cell?_alloc_some _ _ _ (Option.isSome_iff_exists.2 ⟨_, hHeld.2.1⟩)).trans hHeld.2.1, (World.cell?_alloc_some _ _ _ (Option.isSome_iff_exists.2 ⟨_, hHeld.2.2.1⟩)).trans hHeld.2.2.1, (World.cell?_alloc_some _ _ _ (Option.isSome_iff_exists.2 ⟨_, hHeld.2.2.2⟩)).trans hHeld.2.2.2⟩)) (fun hh => ?_)
          have hHeld := hh rfl
          clear hK K
          try simp only [Act.put, List.setIfInBounds_toArray, List.set_cons_zero, List.set_cons_succ]
          refine wpZ_one (i := 7) (oi := ⟨some 109, .call { callee := .builtin .append, args := #[.tmp 106, .tmp 108], argTypes := #[111, 111] }, 111, _, _, none⟩) rfl (by kernel_rfl) (fun K hK => ?_)
          refine step_append_row (by rfl) _ _ _ (by rfl) 146 3 _ 24 Tryz.underlying111 infoLb rfl (by omega) (by omega) (.slice A5 f.lab.length c5) _ (by rfl) _ 1 1 _ (by first | rfl | (simp [Act.eval]; done)) FX.out.1 FX.out.2.1 (by simp [Value.oneCell']) HBT.out ?_; intro B6 n6 c6 w7 hr6 hg6 ha6; obtain ⟨q1, q2, q3⟩ := FX.out.2.2 _ _ _ _ hr6.out hg6.out ha6.out; have qk2 := And.intro q3 (And.intro (hg6.out.cell hHeld.2.1 (fun e => HNE.out _ e.symm rfl)) (And.intro (hg6.out.cell hHeld.2.2.1 (fun e => HNE.out _ e.symm rfl)) (hg6.out.cell hHeld.2.2.2 (fun e => HNE.out _ e.symm rfl)))); have Q1 := Lib.hid q1; clear q1
          refine hK.out _ _ (fun _ => by (first | exact ⟨f5, p0, p1, p2⟩ | exact qk2 | exact ⟨(World.cell?_alloc_some _ _ _ (Option.isSome_iff_exists.2 ⟨_, hHeld.1⟩)).trans hHeld.1, (World.cell?_alloc_some _ _ _ (Option.isSome_iff_exists.2 ⟨_, hHeld.2.1⟩)).trans hHeld.2.1, (World.cell?_alloc_some _ _ _ (Option.isSome_iff_exists.2 ⟨_, hHeld.2.2.1⟩)).trans hHeld.2.2.1, (World.cell?_alloc_some _ _ _ (Option.isSome_iff_exists.2 ⟨_, hHeld.2.2.2⟩)).trans hHeld.2.2.2⟩)) (fun hh => ?_)
          have hHeld := hh rfl
          clear hK K
          try simp only [Act.put, List.setIfInBounds_toArray, List.set_cons_zero, List.set_cons_succ]
          (refine wpZ_take (i := 8) (oi := ⟨some 110, .nilCheck (.tmp 102), 0, _, _, none⟩) (v := ?_) rfl (by kernel_rfl) (fun _ _ _ h => h) (by assumption) (Or.inl ⟨by rfl, ?_⟩) ?_; rotate_left 1; · ((intro w hSw; (try dsimp only at hSw); go_split_ands; go_simp) <;> (try with_reducible rfl)))
          try simp only [Act.put, List.setIfInBounds_toArray, List.set_cons_zero, List.set_cons_succ]
          (refine wpZ_take (i := 9) (oi := ⟨some 111, .fieldAddr 113 (.tmp 110) 5, 0, _, _, none⟩) (v := ?_) rfl (by kernel_rfl) (fun _ _ _ h => h) (by assumption) (Or.inl ⟨by rfl, ?_⟩) ?_; rotate_left 1; · ((intro w hSw; (try dsimp only at hSw); go_split_ands; go_simp) <;> (try with_reducible rfl)))
          try simp only [Act.put, List.setIfInBounds_toArray, List.set_cons_zero, List.set_cons_succ]
          refine wpZ_one (i := 10) (oi := ⟨none, .store 111 (.tmp 111) (.tmp 109), 0, _, _, none⟩) rfl (by kernel_rfl) (fun K hK => ?_)
          go_simp
          refine hK.out _ _ (fun h => by simp at h) (fun _ => ?_)
          clear hK K
          try simp only [Act.put, List.setIfInBounds_toArray, List.set_cons_zero, List.set_cons_succ]
          refine wpZ_done (by kernel_rfl) ?_ _
          go_wp2; go_end0; exact ⟨rfl, FIN.out _ _ _ Q5.out HLBC.out Q1.out⟩
        · have d3 : (x.op == 3) = false := beq_eq_false_iff_ne.2 h3
          have HD := Lib.hid h3
          clear h3
          go_wp2_with fail
          have Q5 := Q4
          have p0 := l0
          have p1 := l1
          have p2 := l2
          clear Q4 l0 l1 l2 z00 z01 x0 lx ll
          generalize wq = w5 at *
          obtain ⟨h1, hf1, hk1, hb1, hl1, hnp⟩ := TT.out
          have h5 := h1.still Q5.out
          have hf5 := hf1.still Q5.out
          obtain ⟨A5, c5, rfl, hmc5, _⟩ := hf5.lab_form h5
          have f5 := hf5.cell 5 _ rfl
          have FX := Lib.hid (lab_tail h5 hf5 hk1 ⟨en, nr, (N4 : Int) - (np : Int)⟩)
          have hlb : ∀ b, rowBlock (.slice A5 f.lab.length c5) = some b → b ≠ lB := by
            rintro b hb rfl
            have := Ck.lt (h1.sep.holds _ _ hf1.lab) (b := b) hb
            have := HLBE.out
            omega
          have HNE := Lib.hid hlb
          have HBT := Lib.hid (show ((labC f.lab).length + 3) * 24 ≤ 140737488355328 by rw [labC_len]; have hl1 : f.lab.length ≤ 1000000000 := hl1; omega)
          have HLBC := Lib.hid (show (if x.op = 3 then (⟨at_, np, (s.c.st.length : Int) - np⟩ : Lb) else ⟨en, nr, (s.c.st.length : Int) - np⟩) = ⟨en, nr, (N4 : Int) - np⟩ by rw [if_neg HD.out, HN.out])
          clear h1 hf1 hk1 hb1 hl1 hnp h5 hf5 hmc5 hlb hi2
          refine wp_region_z (fun w' => w'.cell? ⟨fB, k * 6 + 5, none⟩ = some (.slice A5 f.lab.length c5) ∧ w'.cell? ⟨lB, 0, none⟩ = some (.int .i64 en) ∧ w'.cell? ⟨lB, 1, none⟩ = some (.int .i64 nr) ∧ w'.cell? ⟨lB, 2, none⟩ = some (.int .i64 ((N4 : Int) - (np : Int)))) (fun j => j == 10) (by kernel_rfl) ?_ (fun hHeld => ?_)
          · first | exact ⟨f5, p0, p1, p2⟩ | exact qk2 | exact ⟨(World.cell?_alloc_some _ _ _ (Option.isSome_iff_exists.2 ⟨_, hHeld.1⟩)).trans hHeld.1, (World.cell?_alloc_some _ _ _ (Option.isSome_iff_exists.2 ⟨_, hHeld.2.1⟩)).trans hHeld.2.1, (World.cell?_alloc_some _ _ _ (Option.isSome_iff_exists.2 ⟨_, hHeld.2.2.1⟩)).trans hHeld.2.2.1, (World.cell?_alloc_some _ _ _ (Option.isSome_iff_exists.2 ⟨_, hHeld.2.2.2⟩)).trans hHeld.2.2.2⟩
          (refine wpZ_take (i := 0) (oi := ⟨some 102, .move (.tmp 6), 107, _, _, none⟩) (v := ?_) rfl (by kernel_rfl) (fun _ _ _ h => h) (by assumption) (Or.inl ⟨by rfl, ?_⟩) ?_; rotate_left 1; · ((intro w hSw; (try dsimp only at hSw); go_split_ands; go_simp) <;> (try with_reducible rfl)))
          try simp only [Act.put, List.setIfInBounds_toArray, List.set_cons_zero, List.set_cons_succ]
          (refine wpZ_take (i := 1) (oi := ⟨some 103, .move (.tmp 6), 107, _, _, none⟩) (v := ?_) rfl (by kernel_rfl) (fun _ _ _ h => h) (by assumption) (Or.inl ⟨by rfl, ?_⟩) ?_; rotate_left 1; · ((intro w hSw; (try dsimp only at hSw); go_split_ands; go_simp) <;> (try with_reducible rfl)))
          try simp only [Act.put, List.setIfInBounds_toArray, List.set_cons_zero, List.set_cons_succ]
          (refine wpZ_take (i := 2) (oi := ⟨some 104, .nilCheck (.tmp 103), 0, _, _, none⟩) (v := ?_) rfl (by kernel_rfl) (fun _ _ _ h => h) (by assumption) (Or.inl ⟨by rfl, ?_⟩) ?_; rotate_left 1; · ((intro w hSw; (try dsimp only at hSw); go_split_ands; go_simp) <;> (try with_reducible rfl)))
          try simp only [Act.put, List.setIfInBounds_toArray, List.set_cons_zero, List.set_cons_succ]
          (refine wpZ_take (i := 3) (oi := ⟨some 105, .fieldAddr 113 (.tmp 104) 5, 0, _, _, none⟩) (v := ?_) rfl (by kernel_rfl) (fun _ _ _ h => h) (by assumption) (Or.inl ⟨by rfl, ?_⟩) ?_; rotate_left 1; · ((intro w hSw; (try dsimp only at hSw); go_split_ands; go_simp) <;> (try with_reducible rfl)))
          try simp only [Act.put, List.setIfInBounds_toArray, List.set_cons_zero, List.set_cons_succ]
          (refine wpZ_take (i := 4) (oi := ⟨some 106, .load 111 (.tmp 105), 111, _, _, none⟩) (v := ?_) rfl (by kernel_rfl) (fun _ _ _ h => h) (by assumption) (Or.inl ⟨by rfl, ?_⟩) ?_; rotate_left 1; · ((intro w hSw; (try dsimp only at hSw); go_split_ands; go_simp) <;> (try with_reducible rfl)))
          try simp only [Act.put, List.setIfInBounds_toArray, List.set_cons_zero, List.set_cons_succ]
          (refine wpZ_take (i := 5) (oi := ⟨some 107, .load 146 (.tmp 14), 146, _, _, none⟩) (v := ?_) rfl (by kernel_rfl) (fun _ _ _ h => h) (by assumption) (Or.inl ⟨by rfl, ?_⟩) ?_; rotate_left 1; · ((intro w hSw; (try dsimp only at hSw); go_split_ands; go_simp) <;> (try with_reducible rfl)))
          try simp only [Act.put, List.setIfInBounds_toArray, List.set_cons_zero, List.set_cons_succ]
          refine wpZ_one (i := 6) (oi := ⟨some 108, .buildSlice 111 1 #[(0, .tmp 107)], 111, _, _, none⟩) rfl (by kernel_rfl) (fun K hK => ?_)
          go_simp
          refine hK.out _ _ (fun _ => by (first | exact ⟨f5, p0, p1, p2⟩ | exact qk2 | exact ⟨(World.cell?_alloc_some _ _ _ (Option.isSome_iff_exists.2 ⟨_, hHeld.1⟩)).trans hHeld.1, (World.cell?_alloc_some _ _ _ (Option.isSome_iff_exists.2 ⟨_, hHeld.2.1⟩)).trans hHeld.2.1, (World.cell?_alloc_some _ _ _ (Option.isSome_iff_exists.2 ⟨_, hHeld.2.2.1⟩)).trans hHeld.2.2.1, (World.cell?_alloc_some _ _ _ (Option.isSome_iff_exists.2 ⟨_, hHeld.2.2.2⟩)).trans hHeld.2.2.2⟩)) (fun hh => ?_)
          have hHeld := hh rfl
          clear hK K
          try simp only [Act.put, List.setIfInBounds_toArray, List.set_cons_zero, List.set_cons_succ]
          refine wpZ_one (i := 7) (oi := ⟨some 109, .call { callee := .builtin .append, args := #[.tmp 106, .tmp 108], argTypes := #[111, 111] }, 111, _, _, none⟩) rfl (by kernel_rfl) (fun K hK => ?_)
          refine step_append_row (by rfl) _ _ _ (by rfl) 146 3 _ 24 Tryz.underlying111 infoLb rfl (by omega) (by omega) (.slice A5 f.lab.length c5) _ (by rfl) _ 1 1 _ (by first | rfl | (simp [Act.eval]; done)) FX.out.1 FX.out.2.1 (by simp [Value.oneCell']) HBT.out ?_; intro B6 n6 c6 w7 hr6 hg6 ha6; obtain ⟨q1, q2, q3⟩ := FX.out.2.2 _ _ _ _ hr6.out hg6.out ha6.out; have qk2 := And.intro q3 (And.intro (hg6.out.cell hHeld.2.1 (fun e => HNE.out _ e.symm rfl)) (And.intro (hg6.out.cell hHeld.2.2.1 (fun e => HNE.out _ e.symm rfl)) (hg6.out.cell hHeld.2.2.2 (fun e => HNE.out _ e.symm rfl)))); have Q1 := Lib.hid q1; clear q1
          refine hK.out _ _ (fun _ => by (first | exact ⟨f5, p0, p1, p2⟩ | exact qk2 | exact ⟨(World.cell?_alloc_some _ _ _ (Option.isSome_iff_exists.2 ⟨_, hHeld.1⟩)).trans hHeld.1, (World.cell?_alloc_some _ _ _ (Option.isSome_iff_exists.2 ⟨_, hHeld.2.1⟩)).trans hHeld.2.1, (World.cell?_alloc_some _ _ _ (Option.isSome_iff_exists.2 ⟨_, hHeld.2.2.1⟩)).trans hHeld.2.2.1, (World.cell?_alloc_some _ _ _ (Option.isSome_iff_exists.2 ⟨_, hHeld.2.2.2⟩)).trans hHeld.2.2.2⟩)) (fun hh => ?_)
          have hHeld := hh rfl
          clear hK K
          try simp only [Act.put, List.setIfInBounds_toArray, List.set_cons_zero, List.set_cons_succ]
          (refine wpZ_take (i := 8) (oi := ⟨some 110, .nilCheck (.tmp 102), 0, _, _, none⟩) (v := ?_) rfl (by kernel_rfl) (fun _ _ _ h => h) (by assumption) (Or.inl ⟨by rfl, ?_⟩) ?_; rotate_left 1; · ((intro w hSw; (try dsimp only at hSw); go_split_ands; go_simp) <;> (try with_reducible rfl)))
          try simp only [Act.put, List.setIfInBounds_toArray, List.set_cons_zero, List.set_cons_succ]
          (refine wpZ_take (i := 9) (oi := ⟨some 111, .fieldAddr 113 (.tmp 110) 5, 0, _, _, none⟩) (v := ?_) rfl (by kernel_rfl) (fun _ _ _ h => h) (by assumption) (Or.inl ⟨by rfl, ?_⟩) ?_; rotate_left 1; · ((intro w hSw; (try dsimp only at hSw); go_split_ands; go_simp) <;> (try with_reducible rfl)))
          try simp only [Act.put, List.setIfInBounds_toArray, List.set_cons_zero, List.set_cons_succ]
          refine wpZ_one (i := 10) (oi := ⟨none, .store 111 (.tmp 111) (.tmp 109), 0, _, _, none⟩) rfl (by kernel_rfl) (fun K hK => ?_)
          go_simp
          refine hK.out _ _ (fun h => by simp at h) (fun _ => ?_)
          clear hK K
          try simp only [Act.put, List.setIfInBounds_toArray, List.set_cons_zero, List.set_cons_succ]
          refine wpZ_done (by kernel_rfl) ?_ _
          go_wp2; go_end0; exact ⟨rfl, FIN.out _ _ _ Q5.out HLBC.out Q1.out⟩
end Go.Proofs.YtmnebeikafigjaaGreatDoor
/- step's machine: control (but for the calls by a table). -/
set_option linter.unusedVariables false
namespace Go.Proofs.YtmnebeikafigjaaGreatDoor
open Go.RowKit Go.Sep Go.St
variable {w : World} {S : Nat → Prop} {L : Key → Option Ck} {u : Nat} {P : Ptrs} {M : Mo} {s : Ms}
/-- What must be for an instruction. -/
structure Pre (M : Mo) (I : In) (C : Cf) (k : Nat) (f : Fr) : Prop where
  len : C.frs.length = k + 1
  k : k ≤ 1000000
  ok : FrOk f
  st : C.st.length ≤ 1000000000
  u : U64 C.st
  code : ∃ cd, M.codes[f.fn.toNat]? = some cd
  blk : ∃ bf, I.blocks[f.fn.toNat]? = some bf ∧ ∀ a e, bf a = some e → (-1000000000 < e.1 ∧ e.1 < 1000000000) ∧ (-1000000000 < e.2 ∧ e.2 < 1000000000)
def blkAt (I : In) (f : Fr) : Int → Option (Int × Int) := (I.blocks[f.fn.toNat]?).getD fun _ => none
theorem blkAt_eq {I : In} {f : Fr} {bf : Int → Option (Int × Int)} (h : I.blocks[f.fn.toNat]? = some bf) : blkAt I f = bf := by unfold blkAt; rw [h]; rfl
def tableTo (x : Ins) (v : Int) : Int := match x.l[(lowI v).toNat]? with
  | some n => n
  | none => x.a
def controlC (M : Mo) (I : In) (C : Cf) (f : Fr) (x : Ins) (at_ : Int) : Option Cf :=
  if x.op = 0 then some (endsC 7) else if x.op = 1 then some C else if x.op = 2 ∨ x.op = 3 ∨ x.op = 4 then some (enterC M (blkAt I f) C f x at_)
  else if x.op = 5 then some (skipC C f) else if x.op = 11 then some (closeC C f) else if x.op = 12 then some (branchC M C f x.a)
  else if x.op = 13 then some (match popsC C 1 with
    | none => endsC 17
    | some (l, C1) => if lowI (l.headD 0) = 0 then C1 else branchC M C1 f x.a)
  else if x.op = 14 then some (match popsC C 1 with
    | none => endsC 17
    | some (l, C1) => branchC M C1 f (tableTo x (l.headD 0)))
  else if x.op = 15 then some (leaveC C f) else if x.op = 16 then some (callC M I.blocks.length C x.a) else none
def CtlR (w : World) (S : Nat → Prop) (L : Key → Option Ck) (u : Nat) (P : Ptrs) (M : Mo) (s : Ms) (r : Option Cf) (e : Ending) (w' : World) : Prop := match r with
  | none => e = .returned (.bool false) ∧ Still w w'
  | some C1 => e = .returned (.bool true) ∧ To w S L u P M w' { s with c := C1 }
set_option maxRecDepth 100000 in
set_option maxHeartbeats 1000000 in
theorem control_end (h : Md w S L u P M s) {k fB fc : Nat} {f : Fr} {sv vv lv bv : Value} {raws : List (Value × Value)} (hf : Frm w L u P s k f fB fc sv vv raws lv bv) (pre : Pre M s.i s.c k f) (x : Ins) (xl : Value) (hx : Ins.wf x) (at_ : Int) (hop : x.op = 0) (r : Cf) (hr : controlC M s.i s.c f x at_ = some r) :
    Calls Tryz.prog 43 #[.pointer (some ⟨P.mB, 0, none⟩), insV x xl, .int .i64 at_] w (CtlR w S L u P M s (some r)) := by
  unfold controlC at hr
  simp [hop] at hr
  obtain ⟨cd, hcd⟩ := pre.code
  obtain ⟨bf, hbf, hbw⟩ := pre.blk
  rw [← hr]
  clear hr
  have he := (fun (w' : World) (q : Still w w') => ends_c (h.still q) 7)
  unfold insV at *
  try simp only [hop] at he
  have HE := Lib.hid he
  clear he
  have HR := Lib.hid (fun (w' : World) (q : Still w w') => (q.ro h.sep.lt))
  (try clear hat); clear h hf pre hx hcd hbf hbw
  go_enter Tryz.func43, Tryz.ntmps43
  go_wp2_with fail
  refine (HE.out _ ((Still.refl w).alloc _)).mono ?_
  rintro e w1 ⟨rfl, ht⟩
  have HT := Lib.hid (To.trans (Keep.refl _ _) (HR.out _ ((Still.refl w).alloc _)) (fun _ h => h) ht)
  clear ht
  go_wp2
  exact bodyPost_ret (v := .bool true) (by simp [results, Tryz.results43, go_sem]) rfl ⟨rfl, HT.out⟩
set_option maxRecDepth 100000 in
set_option maxHeartbeats 1000000 in
theorem control_skip (h : Md w S L u P M s) {k fB fc : Nat} {f : Fr} {sv vv lv bv : Value} {raws : List (Value × Value)} (hf : Frm w L u P s k f fB fc sv vv raws lv bv) (pre : Pre M s.i s.c k f) (x : Ins) (xl : Value) (hx : Ins.wf x) (at_ : Int) (hop : x.op = 5) (r : Cf) (hr : controlC M s.i s.c f x at_ = some r) :
    Calls Tryz.prog 43 #[.pointer (some ⟨P.mB, 0, none⟩), insV x xl, .int .i64 at_] w (CtlR w S L u P M s (some r)) := by
  unfold controlC at hr
  simp [hop] at hr
  obtain ⟨cd, hcd⟩ := pre.code
  obtain ⟨bf, hbf, hbw⟩ := pre.blk
  rw [← hr]
  clear hr
  have he := (fun (w' : World) (q : Still w w') => skips_c (h.still q) (hf.still q) pre.len pre.k pre.ok pre.st)
  unfold insV at *
  try simp only [hop] at he
  have HE := Lib.hid he
  clear he
  have HR := Lib.hid (fun (w' : World) (q : Still w w') => (q.ro h.sep.lt))
  (try clear hat); clear h hf pre hx hcd hbf hbw
  go_enter Tryz.func43, Tryz.ntmps43
  go_wp2_with fail
  refine (HE.out _ ((Still.refl w).alloc _)).mono ?_
  rintro e w1 ⟨rfl, ht⟩
  have HT := Lib.hid (To.trans (Keep.refl _ _) (HR.out _ ((Still.refl w).alloc _)) (fun _ h => h) ht)
  clear ht
  go_wp2
  exact bodyPost_ret (v := .bool true) (by simp [results, Tryz.results43, go_sem]) rfl ⟨rfl, HT.out⟩
set_option maxRecDepth 100000 in
set_option maxHeartbeats 1000000 in
theorem control_in2 (h : Md w S L u P M s) {k fB fc : Nat} {f : Fr} {sv vv lv bv : Value} {raws : List (Value × Value)} (hf : Frm w L u P s k f fB fc sv vv raws lv bv) (pre : Pre M s.i s.c k f) (x : Ins) (xl : Value) (hx : Ins.wf x) (at_ : Int) (hat : 0 ≤ at_ ∧ at_ ≤ 9223372036854775807) (hop : x.op = 2) (r : Cf) (hr : controlC M s.i s.c f x at_ = some r) :
    Calls Tryz.prog 43 #[.pointer (some ⟨P.mB, 0, none⟩), insV x xl, .int .i64 at_] w (CtlR w S L u P M s (some r)) := by
  unfold controlC at hr
  simp [hop] at hr
  obtain ⟨cd, hcd⟩ := pre.code
  obtain ⟨bf, hbf, hbw⟩ := pre.blk
  rw [← hr]
  clear hr
  rw [blkAt_eq hbf]
  have he := (fun (w' : World) (q : Still w w') => enters_c at_ hat (h.still q) (hf.still q) pre.len pre.k pre.ok pre.st pre.u bf hbf (hbw at_) x xl hx)
  unfold insV at *
  try simp only [hop] at he
  have HE := Lib.hid he
  clear he
  have HR := Lib.hid (fun (w' : World) (q : Still w w') => (q.ro h.sep.lt))
  (try clear hat); clear h hf pre hx hcd hbf hbw
  go_enter Tryz.func43, Tryz.ntmps43
  go_wp2_with fail
  refine (HE.out _ ((Still.refl w).alloc _)).mono ?_
  rintro e w1 ⟨rfl, ht⟩
  have HT := Lib.hid (To.trans (Keep.refl _ _) (HR.out _ ((Still.refl w).alloc _)) (fun _ h => h) ht)
  clear ht
  go_wp2
  exact bodyPost_ret (v := .bool true) (by simp [results, Tryz.results43, go_sem]) rfl ⟨rfl, HT.out⟩
set_option maxRecDepth 100000 in
set_option maxHeartbeats 1000000 in
theorem control_in3 (h : Md w S L u P M s) {k fB fc : Nat} {f : Fr} {sv vv lv bv : Value} {raws : List (Value × Value)} (hf : Frm w L u P s k f fB fc sv vv raws lv bv) (pre : Pre M s.i s.c k f) (x : Ins) (xl : Value) (hx : Ins.wf x) (at_ : Int) (hat : 0 ≤ at_ ∧ at_ ≤ 9223372036854775807) (hop : x.op = 3) (r : Cf) (hr : controlC M s.i s.c f x at_ = some r) :
    Calls Tryz.prog 43 #[.pointer (some ⟨P.mB, 0, none⟩), insV x xl, .int .i64 at_] w (CtlR w S L u P M s (some r)) := by
  unfold controlC at hr
  simp [hop] at hr
  obtain ⟨cd, hcd⟩ := pre.code
  obtain ⟨bf, hbf, hbw⟩ := pre.blk
  rw [← hr]
  clear hr
  rw [blkAt_eq hbf]
  have he := (fun (w' : World) (q : Still w w') => enters_c at_ hat (h.still q) (hf.still q) pre.len pre.k pre.ok pre.st pre.u bf hbf (hbw at_) x xl hx)
  unfold insV at *
  try simp only [hop] at he
  have HE := Lib.hid he
  clear he
  have HR := Lib.hid (fun (w' : World) (q : Still w w') => (q.ro h.sep.lt))
  (try clear hat); clear h hf pre hx hcd hbf hbw
  go_enter Tryz.func43, Tryz.ntmps43
  go_wp2_with fail
  refine (HE.out _ ((Still.refl w).alloc _)).mono ?_
  rintro e w1 ⟨rfl, ht⟩
  have HT := Lib.hid (To.trans (Keep.refl _ _) (HR.out _ ((Still.refl w).alloc _)) (fun _ h => h) ht)
  clear ht
  go_wp2
  exact bodyPost_ret (v := .bool true) (by simp [results, Tryz.results43, go_sem]) rfl ⟨rfl, HT.out⟩
set_option maxRecDepth 100000 in
set_option maxHeartbeats 1000000 in
theorem control_in4 (h : Md w S L u P M s) {k fB fc : Nat} {f : Fr} {sv vv lv bv : Value} {raws : List (Value × Value)} (hf : Frm w L u P s k f fB fc sv vv raws lv bv) (pre : Pre M s.i s.c k f) (x : Ins) (xl : Value) (hx : Ins.wf x) (at_ : Int) (hat : 0 ≤ at_ ∧ at_ ≤ 9223372036854775807) (hop : x.op = 4) (r : Cf) (hr : controlC M s.i s.c f x at_ = some r) :
    Calls Tryz.prog 43 #[.pointer (some ⟨P.mB, 0, none⟩), insV x xl, .int .i64 at_] w (CtlR w S L u P M s (some r)) := by
  unfold controlC at hr
  simp [hop] at hr
  obtain ⟨cd, hcd⟩ := pre.code
  obtain ⟨bf, hbf, hbw⟩ := pre.blk
  rw [← hr]
  clear hr
  rw [blkAt_eq hbf]
  have he := (fun (w' : World) (q : Still w w') => enters_c at_ hat (h.still q) (hf.still q) pre.len pre.k pre.ok pre.st pre.u bf hbf (hbw at_) x xl hx)
  unfold insV at *
  try simp only [hop] at he
  have HE := Lib.hid he
  clear he
  have HR := Lib.hid (fun (w' : World) (q : Still w w') => (q.ro h.sep.lt))
  (try clear hat); clear h hf pre hx hcd hbf hbw
  go_enter Tryz.func43, Tryz.ntmps43
  go_wp2_with fail
  refine (HE.out _ ((Still.refl w).alloc _)).mono ?_
  rintro e w1 ⟨rfl, ht⟩
  have HT := Lib.hid (To.trans (Keep.refl _ _) (HR.out _ ((Still.refl w).alloc _)) (fun _ h => h) ht)
  clear ht
  go_wp2
  exact bodyPost_ret (v := .bool true) (by simp [results, Tryz.results43, go_sem]) rfl ⟨rfl, HT.out⟩
set_option maxRecDepth 100000 in
set_option maxHeartbeats 1000000 in
theorem control_close (h : Md w S L u P M s) {k fB fc : Nat} {f : Fr} {sv vv lv bv : Value} {raws : List (Value × Value)} (hf : Frm w L u P s k f fB fc sv vv raws lv bv) (pre : Pre M s.i s.c k f) (x : Ins) (xl : Value) (hx : Ins.wf x) (at_ : Int) (hop : x.op = 11) (r : Cf) (hr : controlC M s.i s.c f x at_ = some r) :
    Calls Tryz.prog 43 #[.pointer (some ⟨P.mB, 0, none⟩), insV x xl, .int .i64 at_] w (CtlR w S L u P M s (some r)) := by
  unfold controlC at hr
  simp [hop] at hr
  obtain ⟨cd, hcd⟩ := pre.code
  obtain ⟨bf, hbf, hbw⟩ := pre.blk
  rw [← hr]
  clear hr
  have he := (fun (w' : World) (q : Still w w') => closes_c (h.still q) (hf.still q) pre.len pre.k pre.ok pre.st)
  unfold insV at *
  try simp only [hop] at he
  have HE := Lib.hid he
  clear he
  have HR := Lib.hid (fun (w' : World) (q : Still w w') => (q.ro h.sep.lt))
  (try clear hat); clear h hf pre hx hcd hbf hbw
  go_enter Tryz.func43, Tryz.ntmps43
  go_wp2_with fail
  refine (HE.out _ ((Still.refl w).alloc _)).mono ?_
  rintro e w1 ⟨rfl, ht⟩
  have HT := Lib.hid (To.trans (Keep.refl _ _) (HR.out _ ((Still.refl w).alloc _)) (fun _ h => h) ht)
  clear ht
  go_wp2
  exact bodyPost_ret (v := .bool true) (by simp [results, Tryz.results43, go_sem]) rfl ⟨rfl, HT.out⟩
set_option maxRecDepth 100000 in
set_option maxHeartbeats 1000000 in
theorem control_br (h : Md w S L u P M s) {k fB fc : Nat} {f : Fr} {sv vv lv bv : Value} {raws : List (Value × Value)} (hf : Frm w L u P s k f fB fc sv vv raws lv bv) (pre : Pre M s.i s.c k f) (x : Ins) (xl : Value) (hx : Ins.wf x) (at_ : Int) (hop : x.op = 12) (r : Cf) (hr : controlC M s.i s.c f x at_ = some r) :
    Calls Tryz.prog 43 #[.pointer (some ⟨P.mB, 0, none⟩), insV x xl, .int .i64 at_] w (CtlR w S L u P M s (some r)) := by
  unfold controlC at hr
  simp [hop] at hr
  obtain ⟨cd, hcd⟩ := pre.code
  obtain ⟨bf, hbf, hbw⟩ := pre.blk
  rw [← hr]
  clear hr
  obtain ⟨n, hn⟩ := Int.eq_ofNat_of_zero_le hx.a.1
  have hn2 : n < 4294967296 := by have := hx.a.2; omega
  rw [hn]
  have he := (fun (w' : World) (q : Still w w') => branches_c (h.still q) (hf.still q) pre.len pre.k pre.ok cd hcd pre.st n hn2)
  unfold insV at *
  try simp only [hop] at he
  have HE := Lib.hid he
  clear he
  have HR := Lib.hid (fun (w' : World) (q : Still w w') => (q.ro h.sep.lt))
  (try clear hat); clear h hf pre hx hcd hbf hbw
  go_enter Tryz.func43, Tryz.ntmps43
  go_wp2_with fail
  refine (HE.out _ ((Still.refl w).alloc _)).mono ?_
  rintro e w1 ⟨rfl, ht⟩
  have HT := Lib.hid (To.trans (Keep.refl _ _) (HR.out _ ((Still.refl w).alloc _)) (fun _ h => h) ht)
  clear ht
  go_wp2
  exact bodyPost_ret (v := .bool true) (by simp [results, Tryz.results43, go_sem]) rfl ⟨rfl, HT.out⟩
set_option maxRecDepth 100000 in
set_option maxHeartbeats 1000000 in
theorem control_ret (h : Md w S L u P M s) {k fB fc : Nat} {f : Fr} {sv vv lv bv : Value} {raws : List (Value × Value)} (hf : Frm w L u P s k f fB fc sv vv raws lv bv) (pre : Pre M s.i s.c k f) (x : Ins) (xl : Value) (hx : Ins.wf x) (at_ : Int) (hop : x.op = 15) (r : Cf) (hr : controlC M s.i s.c f x at_ = some r) :
    Calls Tryz.prog 43 #[.pointer (some ⟨P.mB, 0, none⟩), insV x xl, .int .i64 at_] w (CtlR w S L u P M s (some r)) := by
  unfold controlC at hr
  simp [hop] at hr
  obtain ⟨cd, hcd⟩ := pre.code
  obtain ⟨bf, hbf, hbw⟩ := pre.blk
  rw [← hr]
  clear hr
  have he := (fun (w' : World) (q : Still w w') => leaves_c (h.still q) (hf.still q) pre.len pre.k pre.ok.ar pre.st)
  unfold insV at *
  try simp only [hop] at he
  have HE := Lib.hid he
  clear he
  have HR := Lib.hid (fun (w' : World) (q : Still w w') => (q.ro h.sep.lt))
  (try clear hat); clear h hf pre hx hcd hbf hbw
  go_enter Tryz.func43, Tryz.ntmps43
  go_wp2_with fail
  refine (HE.out _ ((Still.refl w).alloc _)).mono ?_
  rintro e w1 ⟨rfl, ht⟩
  have HT := Lib.hid (To.trans (Keep.refl _ _) (HR.out _ ((Still.refl w).alloc _)) (fun _ h => h) ht)
  clear ht
  go_wp2
  exact bodyPost_ret (v := .bool true) (by simp [results, Tryz.results43, go_sem]) rfl ⟨rfl, HT.out⟩
set_option maxRecDepth 100000 in
set_option maxHeartbeats 1000000 in
theorem control_call (h : Md w S L u P M s) {k fB fc : Nat} {f : Fr} {sv vv lv bv : Value} {raws : List (Value × Value)} (hf : Frm w L u P s k f fB fc sv vv raws lv bv) (pre : Pre M s.i s.c k f) (x : Ins) (xl : Value) (hx : Ins.wf x) (at_ : Int) (hop : x.op = 16) (r : Cf) (hr : controlC M s.i s.c f x at_ = some r) :
    Calls Tryz.prog 43 #[.pointer (some ⟨P.mB, 0, none⟩), insV x xl, .int .i64 at_] w (CtlR w S L u P M s (some r)) := by
  unfold controlC at hr
  simp [hop] at hr
  obtain ⟨cd, hcd⟩ := pre.code
  obtain ⟨bf, hbf, hbw⟩ := pre.blk
  rw [← hr]
  clear hr
  obtain ⟨n, hn⟩ := Int.eq_ofNat_of_zero_le hx.a.1
  have hn2 : n < 4294967296 := by have := hx.a.2; omega
  rw [hn]
  have he := (fun (w' : World) (q : Still w w') => calls_c (h.still q) n hn2 pre.u pre.st)
  unfold insV at *
  try simp only [hop] at he
  have HE := Lib.hid he
  clear he
  have HR := Lib.hid (fun (w' : World) (q : Still w w') => (q.ro h.sep.lt))
  (try clear hat); clear h hf pre hx hcd hbf hbw
  go_enter Tryz.func43, Tryz.ntmps43
  go_wp2_with fail
  refine (HE.out _ ((Still.refl w).alloc _)).mono ?_
  rintro e w1 ⟨rfl, ht⟩
  have HT := Lib.hid (To.trans (Keep.refl _ _) (HR.out _ ((Still.refl w).alloc _)) (fun _ h => h) ht)
  clear ht
  go_wp2
  exact bodyPost_ret (v := .bool true) (by simp [results, Tryz.results43, go_sem]) rfl ⟨rfl, HT.out⟩
set_option maxRecDepth 100000 in
set_option maxHeartbeats 1000000 in
theorem control_nop (h : Md w S L u P M s) (x : Ins) (xl : Value) (at_ : Int) (hop : x.op = 1) :
    Calls Tryz.prog 43 #[.pointer (some ⟨P.mB, 0, none⟩), insV x xl, .int .i64 at_] w (CtlR w S L u P M s (some s.c)) := by
  have HR := Lib.hid (fun (w' : World) (q : Still w w') => (To.still h q))
  unfold insV
  clear h
  go_enter Tryz.func43, Tryz.ntmps43
  go_wp2
  exact bodyPost_ret (v := .bool true) (by simp [results, Tryz.results43, go_sem]) rfl ⟨rfl, HR.out _ ((Still.refl w).alloc _)⟩
set_option maxRecDepth 100000 in
set_option maxHeartbeats 1000000 in
theorem control_no (h : Md w S L u P M s) (f : Fr) (x : Ins) (xl : Value) (at_ : Int) (hr : controlC M s.i s.c f x at_ = none) (hni : x.op ≠ 17) :
    Calls Tryz.prog 43 #[.pointer (some ⟨P.mB, 0, none⟩), insV x xl, .int .i64 at_] w (CtlR w S L u P M s none) := by
  have hne : x.op ≠ 0 ∧ x.op ≠ 1 ∧ x.op ≠ 2 ∧ x.op ≠ 3 ∧ x.op ≠ 4 ∧ x.op ≠ 5 ∧ x.op ≠ 11 ∧ x.op ≠ 12 ∧ x.op ≠ 13 ∧ x.op ≠ 14 ∧ x.op ≠ 15 ∧ x.op ≠ 16 := by
    unfold controlC at hr
    refine ⟨?_, ?_, ?_, ?_, ?_, ?_, ?_, ?_, ?_, ?_, ?_, ?_⟩ <;> intro e <;> simp [e] at hr
  obtain ⟨a0, a1, a2, a3, a4, a5, a11, a12, a13, a14, a15, a16⟩ := hne
  have b0 : (x.op == 0) = false := beq_eq_false_iff_ne.2 a0
  have b1 : (x.op == 1) = false := beq_eq_false_iff_ne.2 a1
  have b2 : (x.op == 2) = false := beq_eq_false_iff_ne.2 a2
  have b3 : (x.op == 3) = false := beq_eq_false_iff_ne.2 a3
  have b4 : (x.op == 4) = false := beq_eq_false_iff_ne.2 a4
  have b5 : (x.op == 5) = false := beq_eq_false_iff_ne.2 a5
  have b11 : (x.op == 11) = false := beq_eq_false_iff_ne.2 a11
  have b12 : (x.op == 12) = false := beq_eq_false_iff_ne.2 a12
  have b13 : (x.op == 13) = false := beq_eq_false_iff_ne.2 a13
  have b14 : (x.op == 14) = false := beq_eq_false_iff_ne.2 a14
  have b15 : (x.op == 15) = false := beq_eq_false_iff_ne.2 a15
  have b16 : (x.op == 16) = false := beq_eq_false_iff_ne.2 a16
  have b17 : (x.op == 17) = false := beq_eq_false_iff_ne.2 hni
  unfold insV
  clear h hr hni a0 a1 a2 a3 a4 a5 a11 a12 a13 a14 a15 a16
  go_enter Tryz.func43, Tryz.ntmps43
  go_wp2
  exact bodyPost_ret (v := .bool false) (by simp [results, Tryz.results43, go_sem]) rfl ⟨rfl, (Still.refl w).alloc _⟩
end Go.Proofs.YtmnebeikafigjaaGreatDoor
