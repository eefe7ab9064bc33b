/- Lemmas of the walk, part 1. -/
import Derived.Test.YtmnebeikafigjaaGreatDoorJ0
/- step's machine: what is read of the module: has, function, op. -/
set_option linter.unusedVariables false
namespace Go.Proofs.YtmnebeikafigjaaGreatDoor
open Go.RowKit Go.Sep Go.St
variable {w : World} {S : Nat → Prop} {L : Key → Option Ck} {u : Nat} {P : Ptrs} {M : Mo} {s : Ms}
/-- Nothing that was there has changed. -/
def Still (w w' : World) : Prop := (w.heap.size ≤ w'.heap.size ∧ w'.os = w.os ∧ w'.output = w.output) ∧ ∀ b, b < w.heap.size → w'.heap[b]? = w.heap[b]?
theorem Still.refl (w : World) : Still w w := ⟨⟨Nat.le_refl _, rfl, rfl⟩, fun _ _ => rfl⟩
theorem Still.trans {a b c : World} (h : Still a b) (k : Still b c) : Still a c := ⟨⟨Nat.le_trans h.1.1 k.1.1, k.1.2.1.trans h.1.2.1, k.1.2.2.trans h.1.2.2⟩, fun x hx => (k.2 x (Nat.lt_of_lt_of_le hx h.1.1)).trans (h.2 x hx)⟩
theorem Still.drewN {a b : World} (h : Still a b) (n : Nat) : Still a (b.drewN n) := h
theorem Still.drew {a b : World} (h : Still a b) : Still a b.drew := h
theorem Still.alloc {a b : World} (h : Still a b) (o : Obj) : Still a (b.alloc o) := h.trans ⟨⟨by simp, rfl, rfl⟩, fun x hx => heap_alloc_old b o hx⟩
theorem Still.grown {a b : World} (h : a.grownBy b none) : Still a b := ⟨⟨h.size, h.os, h.output⟩, fun b hb => h.block b hb (by simp)⟩
theorem Still.setNew {a b : World} (h : Still a b) (p : Addr) (v : Value) (hp : a.heap.size ≤ p.block) : Still a (b.setCell p v) := by
  refine ⟨by simpa [World.setCell] using h.1, fun x hx => ?_⟩
  rw [← h.2 x hx]
  simp only [World.setCell, Array.getElem?_modify]
  rw [if_neg (by omega)]
theorem Still.ro {a b : World} (h : Still a b) {S : Nat → Prop} (hS : ∀ b, S b → b < a.heap.size) : Ro S a b := ⟨h.1, fun x hx => h.2 x (hS x hx)⟩
theorem Still.cell {a b : World} (h : Still a b) {p : Addr} {v : Value} (hc : a.cell? p = some v) : b.cell? p = some v := (World.cell?_of_block (h.2 p.block (World.block_lt_of_cell? a p hc))).trans hc
theorem Md.still {w' : World} (h : Md w S L u P M s) (k : Still w w') : Md w' S L u P M s := h.recfg (h.sep.still k.1.1 k.2) (k.ro h.sep.lt) (fun _ h => h) h.cfg (fun _ _ => rfl)
theorem To.still {w' : World} (h : Md w S L u P M s) (k : Still w w') : To w S L u P M w' s := ⟨S, L, h.still k, Keep.refl _ _, k.ro h.sep.lt, fun _ h => h⟩
theorem Frm.still {w' : World} {k fB fc : Nat} {f : Fr} {sv vv lv bv : Value} {raws : List (Value × Value)} (h : Frm w L u P s k f fB fc sv vv raws lv bv) (q : Still w w') : Frm w' L u P s k f fB fc sv vv raws lv bv := by
  have hlt : fB < w.heap.size := World.block_lt_of_cell? w _ (h.cell 0 _ rfl)
  exact ⟨h.cfg, h.st, h.va, h.len, h.fr, h.all, h.top, h.raw, h.loc, h.lab, h.le, fun j v hj => q.cell (h.cell j v hj), fun j => (World.frozen?_of_block (a := ⟨fB, j, none⟩) (q.2 fB hlt)).trans (h.frozen j), q.cell h.m0, q.cell h.m1, q.cell h.c0, q.cell h.c1⟩
/-- The instance as it lies. -/
structure Inx (w : World) (S : Nat → Prop) (L : Key → Option Ck) (u : Nat) (P : Ptrs) (M : Mo) (s : Ms) (mc : List Value) (tA fA cA bA : Option Addr) (tc fc cc bc : Nat) (mv tv gv ev dv : Value) : Prop where
  ins : L (.ins u) = some (.cl P.iB 0 (mc ++ [.slice bA s.i.blocks.length bc, mv, tv, gv, ev, dv]))
  len : mc.length = 13
  mod : ModR w S M mc
  types : RdL w S 2 (FtR w S) (.slice tA M.types.length tc) M.types
  funcs : RdL w S 1 (num1 .u32) (.slice fA M.funcs.length fc) M.funcs
  codes : RdL w S 2 (CdR w S) (.slice cA M.codes.length cc) M.codes
  blocks : RdL w S 1 (BlkR w S) (.slice bA s.i.blocks.length bc) s.i.blocks
  mem : L (.mem u) = some (.rw 5 1 mv (ints .u8 s.i.mem))
  tabs : TabsAt L u tv s.i.tabs
  glo : L (.glo u) = some (.rw 26 1 gv (ints .u64 s.i.glo))
  els : L (.els u) = some (.rw 4 1 ev (bools s.i.els))
  das : L (.das u) = some (.rw 4 1 dv (bools s.i.das))
  m0 : w.cell? ⟨P.mB, 0, none⟩ = some (.pointer (some ⟨P.cB, P.co, none⟩))
  m1 : w.cell? ⟨P.mB, 1, none⟩ = some (.pointer (some ⟨P.iB, 0, none⟩))
  m2 : w.cell? ⟨P.mB, 2, none⟩ = some P.jp
  i0 : w.cell? ⟨P.iB, 0, none⟩ = some (.slice tA M.types.length tc)
  i1 : w.cell? ⟨P.iB, 1, none⟩ = some (.slice fA M.funcs.length fc)
  i11 : w.cell? ⟨P.iB, 11, none⟩ = some (.slice cA M.codes.length cc)
  i13 : w.cell? ⟨P.iB, 13, none⟩ = some (.slice bA s.i.blocks.length bc)
  i14 : w.cell? ⟨P.iB, 14, none⟩ = some mv
  i15 : w.cell? ⟨P.iB, 15, none⟩ = some tv
  i16 : w.cell? ⟨P.iB, 16, none⟩ = some gv
  i17 : w.cell? ⟨P.iB, 17, none⟩ = some ev
  i18 : w.cell? ⟨P.iB, 18, none⟩ = some dv
  iz : ∀ j, w.frozen? ⟨P.iB, j, none⟩ = false
theorem Md.inx (h : Md w S L u P M s) : ∃ mc tA fA cA bA tc fc cc bc mv tv gv ev dv, Inx w S L u P M s mc tA fA cA bA tc fc cc bc mv tv gv ev dv := by
  obtain ⟨mc, bv, mv, tv, gv, ev, dv, h1, h2, h3, h4, h5, h6, h7, h8⟩ := h.ins
  obtain ⟨v0, e0, r0⟩ := h2.types
  obtain ⟨v1, e1, r1⟩ := h2.funcs
  obtain ⟨v11, e11, r11⟩ := h2.codes
  have r0' := r0
  have r1' := r1
  have r11' := r11
  have h3' := h3
  obtain ⟨tA, tc, rfl, _⟩ := r0
  obtain ⟨fA, fc, rfl, _⟩ := r1
  obtain ⟨cA, cc, rfl, _⟩ := r11
  obtain ⟨bA, bc, rfl, _⟩ := h3
  have hl := h2.len
  have get : ∀ j v, mc[j]? = some v → w.cell? ⟨P.iB, j, none⟩ = some v := fun j v hj => h.sep.cell0 h1 j v (by rw [List.getElem?_append_left (List.getElem?_eq_some_iff.1 hj).1]; exact hj)
  have get2 : ∀ j v, [Value.slice bA s.i.blocks.length bc, mv, tv, gv, ev, dv][j]? = some v → w.cell? ⟨P.iB, 13 + j, none⟩ = some v := fun j v hj => h.sep.cell0 h1 (13 + j) v (by rw [List.getElem?_append_right (by omega), hl, Nat.add_sub_cancel_left]; exact hj)
  exact ⟨mc, tA, fA, cA, bA, tc, fc, cc, bc, mv, tv, gv, ev, dv, ⟨h1, hl, h2, r0', r1', r11', h3', h4, h5, h6, h7, h8, h.sep.cell0 h.mach 0 _ rfl, h.sep.cell0 h.mach 1 _ rfl, h.sep.cell0 h.mach 2 _ rfl,
    get 0 _ e0, get 1 _ e1, get 11 _ e11, get2 0 _ rfl, get2 1 _ rfl, get2 2 _ rfl, get2 3 _ rfl, get2 4 _ rfl, get2 5 _ rfl, fun j => h.sep.frozen h1 j⟩⟩
theorem has_c (n : Int) (N : Nat) (b : Bool) (h0 : 0 ≤ n) (h1 : n < 4294967296) (hN : N ≤ maxLen) (hb : decide (n < (N : Int)) = b) (w : World) :
    Calls Tryz.prog 72 #[.int .u32 n, .int .i64 (N : Int)] w fun e w' => e = .returned (.bool b) ∧ w' = w := by
  unfold maxLen at hN
  have e1 : IntKind.u64.wrap n = n := by simp [IntKind.wrap, IntKind.bits, IntKind.signed]; omega
  have e2 : IntKind.u64.wrap (N : Int) = (N : Int) := by simp [IntKind.wrap, IntKind.bits, IntKind.signed]; omega
  clear hN h0 h1
  go_enter Tryz.func72, Tryz.ntmps72
  go_wp2
  go_ret
  exact ⟨rfl, rfl⟩
theorem RdL.get1 {α : Type} {w : World} {S : Nat → Prop} {R : α → List Value → Prop} {A : Option Addr} {n c : Nat} {xs : List α} (h : RdL w S 1 R (.slice A n c) xs) (k : Nat) (x : α) (hx : xs[k]? = some x) :
    ∃ b o v, A = some ⟨b, o, none⟩ ∧ S b ∧ R x [v] ∧ w.cell? ⟨b, o + k, none⟩ = some v := by
  obtain ⟨b, o, cs, rfl, h1, h2, h3, h4⟩ := h.get k x hx
  match cs, h2 with
  | [v], _ => exact ⟨b, o, v, rfl, h1, h3, by have := h4 0 v rfl; rwa [Nat.mul_one, Nat.add_zero] at this⟩
theorem RdL.get2 {α : Type} {w : World} {S : Nat → Prop} {R : α → List Value → Prop} {A : Option Addr} {n c : Nat} {xs : List α} (h : RdL w S 2 R (.slice A n c) xs) (k : Nat) (x : α) (hx : xs[k]? = some x) :
    ∃ b o v v', A = some ⟨b, o, none⟩ ∧ S b ∧ R x [v, v'] ∧ w.cell? ⟨b, o + k * 2, none⟩ = some v ∧ w.cell? ⟨b, o + k * 2 + 1, none⟩ = some v' := by
  obtain ⟨b, o, cs, rfl, h1, h2, h3, h4⟩ := h.get k x hx
  match cs, h2 with
  | [v, v'], _ => exact ⟨b, o, v, v', rfl, h1, h3, h4 0 v rfl, h4 1 v' rfl⟩
theorem RdL.len {α : Type} {w : World} {S : Nat → Prop} {sz : Nat} {R : α → List Value → Prop} {A : Option Addr} {n c : Nat} {xs : List α} (h : RdL w S sz R (.slice A n c) xs) : n = xs.length ∧ n ≤ c ∧ n ≤ maxLen := by
  obtain ⟨A, c, hv, h1, h2, _⟩ := h
  cases hv
  exact ⟨rfl, h1, by omega⟩
/-- What function gives: the type's two rows. -/
def FnYes (w : World) (S : Nat → Prop) (t : Ft) (e : Ending) (w' : World) : Prop := ∃ pA pc rA rc, e = .returned (.tuple #[.agg #[.slice pA t.ps.length pc, .slice rA t.rs.length rc], .bool true]) ∧ FtR w S t [.slice pA t.ps.length pc, .slice rA t.rs.length rc] ∧ Still w w'
theorem functionM_some {nb f : Nat} {t : Ft} (h : functionM M nb f = some t) : ∃ x, M.funcs[f]? = some x ∧ M.types[x.toNat]? = some t ∧ f < M.codes.length ∧ f < nb := by
  unfold functionM at h
  rw [Int.toNat_natCast] at h
  split at h
  · cases h
  · rename_i x hx
    split at h
    · cases h
    · rename_i t' ht
      split at h
      · rename_i hc
        injection h with h
        subst h
        exact ⟨x, hx, ht, hc.1, hc.2⟩
      · cases h
set_option maxRecDepth 100000 in
set_option maxHeartbeats 1000000 in
theorem function_yes (h : Md w S L u P M s) (f : Nat) (hf : f < 4294967296) (t : Ft) (ht : functionM M s.i.blocks.length f = some t) :
    Calls Tryz.prog 41 #[.pointer (some ⟨P.mB, 0, none⟩), .int .u32 (f : Int)] w (FnYes w S t) := by
  obtain ⟨mc, tA, fA, cA, bA, tc, fc, cc, bc, mv, tv, gv, ev, dv, hx⟩ := h.inx
  obtain ⟨x, hx1, hx2, hx3, hx4⟩ := functionM_some ht
  obtain ⟨fb, fo, fv, rfl, _, hfv, cf⟩ := hx.funcs.get1 f x hx1
  have hfv : fv = .int .u32 x := by have : [fv] = [.int .u32 x] := hfv; simpa using this
  subst hfv
  obtain ⟨x0, x1⟩ := h.wf.funcs x (List.mem_of_getElem? hx1)
  obtain ⟨n, rfl⟩ := Int.eq_ofNat_of_zero_le x0
  rw [Int.toNat_natCast] at hx2
  obtain ⟨tb, to_, pv, rv, rfl, _, ⟨pv', rv', hpr, hp, hr⟩, ct, ct1⟩ := hx.types.get2 n t hx2
  obtain ⟨rfl, rfl⟩ : pv = pv' ∧ rv = rv' := by simpa using hpr
  have hp' := hp
  have hr' := hr
  obtain ⟨pA, pc, rfl, qp⟩ := hp
  obtain ⟨rA, rc, rfl, qr⟩ := hr
  clear qp qr
  have FIN := Lib.hid (⟨_, _, rfl, hp', hr'⟩ : FtR w S t [.slice pA t.ps.length pc, .slice rA t.rs.length rc])
  have a1 := (List.getElem?_eq_some_iff.1 hx1).1
  have a2 := (List.getElem?_eq_some_iff.1 hx2).1
  have HS1 := fun w => has_c (f : Int) M.funcs.length true (by omega) (by omega) hx.funcs.len.2.2 (by simpa using a1) w
  have HS2 := fun w => has_c (n : Int) M.types.length true (by omega) (by omega) hx.types.len.2.2 (by simpa using a2) w
  have HS3 := fun w => has_c (f : Int) M.codes.length true (by omega) (by omega) hx.codes.len.2.2 (by simpa using hx3) w
  have HS4 := fun w => has_c (f : Int) s.i.blocks.length true (by omega) (by omega) hx.blocks.len.2.2 (by simpa using hx4) w
  have G1 := Lib.hid HS1
  have G2 := Lib.hid HS2
  have G3 := Lib.hid HS3
  have G4 := Lib.hid HS4
  have m1 := hx.m1
  have i0 := hx.i0
  have i1 := hx.i1
  have i11 := hx.i11
  have i13 := hx.i13
  have b1 : (0 : Int) ≤ (f : Int) := by omega
  have b2 : (f : Int) < (M.funcs.length : Int) := by omega
  have b3 : (0 : Int) ≤ (n : Int) := by omega
  have b4 : (n : Int) < (M.types.length : Int) := by omega
  have l1 := World.block_lt_of_cell? w _ m1
  have l2 := World.block_lt_of_cell? w _ i0
  have l3 := World.block_lt_of_cell? w _ cf
  have l4 := World.block_lt_of_cell? w _ ct
  clear h hx HS1 HS2 HS3 HS4 hp' hr' hpr hfv ht hx1 hx2 hf x0 x1 a1 a2 hx3 hx4
  go_enter Tryz.func41, Tryz.ntmps41
  go_wp2_with fail
  go_quiet ((go_at_call 72; first | (with_reducible exact Calls.quiet_of_same (G1.out _)) | (with_reducible exact Calls.quiet_of_same (G2.out _)) | (with_reducible exact Calls.quiet_of_same (G3.out _)) | (with_reducible exact Calls.quiet_of_same (G4.out _))))
  go_wp2_with fail
  refine wp_region_z (fun w' => w'.cell? ⟨P.iB, 0, none⟩ = some (.slice (some ⟨tb, to_, none⟩) M.types.length tc) ∧ w'.cell? ⟨P.iB, 1, none⟩ = some (.slice (some ⟨fb, fo, none⟩) M.funcs.length fc) ∧ w'.cell? ⟨fb, fo + f, none⟩ = some (.int .u32 (n : Int)) ∧ w'.cell? ⟨tb, to_ + n * 2, none⟩ = some (.slice pA t.ps.length pc) ∧ w'.cell? ⟨tb, to_ + n * 2 + 1, none⟩ = some (.slice rA t.rs.length rc)) (fun j => j == 13 || j == 14) (by kernel_rfl) ?_ (fun hHeld => ?_)
  · go_keep
  (refine wpZ_take (i := 0) (oi := ⟨some 61, .move (.tmp 6), 151, _, _, none⟩) (v := ?_) rfl (by kernel_rfl) (fun _ _ _ h => h) (by assumption) (Or.inl ⟨by rfl, ?_⟩) ?_; rotate_left 1; · ((intro w hSw; (try dsimp only at hSw); go_split_ands; go_simp) <;> (try with_reducible rfl)))
  try simp only [Act.put, List.setIfInBounds_toArray, List.set_cons_zero, List.set_cons_succ]
  (refine wpZ_take (i := 1) (oi := ⟨some 62, .nilCheck (.tmp 61), 0, _, _, none⟩) (v := ?_) rfl (by kernel_rfl) (fun _ _ _ h => h) (by assumption) (Or.inl ⟨by rfl, ?_⟩) ?_; rotate_left 1; · ((intro w hSw; (try dsimp only at hSw); go_split_ands; go_simp) <;> (try with_reducible rfl)))
  try simp only [Act.put, List.setIfInBounds_toArray, List.set_cons_zero, List.set_cons_succ]
  (refine wpZ_take (i := 2) (oi := ⟨some 63, .fieldAddr 52 (.tmp 62) 0, 0, _, _, none⟩) (v := ?_) rfl (by kernel_rfl) (fun _ _ _ h => h) (by assumption) (Or.inl ⟨by rfl, ?_⟩) ?_; rotate_left 1; · ((intro w hSw; (try dsimp only at hSw); go_split_ands; go_simp) <;> (try with_reducible rfl)))
  try simp only [Act.put, List.setIfInBounds_toArray, List.set_cons_zero, List.set_cons_succ]
  (refine wpZ_take (i := 3) (oi := ⟨some 64, .load 37 (.tmp 63), 37, _, _, none⟩) (v := ?_) rfl (by kernel_rfl) (fun _ _ _ h => h) (by assumption) (Or.inl ⟨by rfl, ?_⟩) ?_; rotate_left 1; · ((intro w hSw; (try dsimp only at hSw); go_split_ands; go_simp) <;> (try with_reducible rfl)))
  try simp only [Act.put, List.setIfInBounds_toArray, List.set_cons_zero, List.set_cons_succ]
  (refine wpZ_take (i := 4) (oi := ⟨some 65, .move (.tmp 6), 151, _, _, none⟩) (v := ?_) rfl (by kernel_rfl) (fun _ _ _ h => h) (by assumption) (Or.inl ⟨by rfl, ?_⟩) ?_; rotate_left 1; · ((intro w hSw; (try dsimp only at hSw); go_split_ands; go_simp) <;> (try with_reducible rfl)))
  try simp only [Act.put, List.setIfInBounds_toArray, List.set_cons_zero, List.set_cons_succ]
  (refine wpZ_take (i := 5) (oi := ⟨some 66, .nilCheck (.tmp 65), 0, _, _, none⟩) (v := ?_) rfl (by kernel_rfl) (fun _ _ _ h => h) (by assumption) (Or.inl ⟨by rfl, ?_⟩) ?_; rotate_left 1; · ((intro w hSw; (try dsimp only at hSw); go_split_ands; go_simp) <;> (try with_reducible rfl)))
  try simp only [Act.put, List.setIfInBounds_toArray, List.set_cons_zero, List.set_cons_succ]
  (refine wpZ_take (i := 6) (oi := ⟨some 67, .fieldAddr 52 (.tmp 66) 1, 0, _, _, none⟩) (v := ?_) rfl (by kernel_rfl) (fun _ _ _ h => h) (by assumption) (Or.inl ⟨by rfl, ?_⟩) ?_; rotate_left 1; · ((intro w hSw; (try dsimp only at hSw); go_split_ands; go_simp) <;> (try with_reducible rfl)))
  try simp only [Act.put, List.setIfInBounds_toArray, List.set_cons_zero, List.set_cons_succ]
  (refine wpZ_take (i := 7) (oi := ⟨some 68, .load 27 (.tmp 67), 27, _, _, none⟩) (v := ?_) rfl (by kernel_rfl) (fun _ _ _ h => h) (by assumption) (Or.inl ⟨by rfl, ?_⟩) ?_; rotate_left 1; · ((intro w hSw; (try dsimp only at hSw); go_split_ands; go_simp) <;> (try with_reducible rfl)))
  try simp only [Act.put, List.setIfInBounds_toArray, List.set_cons_zero, List.set_cons_succ]
  (refine wpZ_take (i := 8) (oi := ⟨some 69, .move (.tmp 1), 25, _, _, none⟩) (v := ?_) rfl (by kernel_rfl) (fun _ _ _ h => h) (by assumption) (Or.inl ⟨by rfl, ?_⟩) ?_; rotate_left 1; · ((intro w hSw; (try dsimp only at hSw); go_split_ands; go_simp) <;> (try with_reducible rfl)))
  try simp only [Act.put, List.setIfInBounds_toArray, List.set_cons_zero, List.set_cons_succ]
  (refine wpZ_take (i := 9) (oi := ⟨some 70, .indexAddr 27 (.tmp 68) (.tmp 69), 0, _, _, none⟩) (v := ?_) rfl (by kernel_rfl) (fun _ _ _ h => h) (by assumption) (Or.inl ⟨by rfl, ?_⟩) ?_; rotate_left 1; · ((intro w hSw; (try dsimp only at hSw); go_split_ands; go_simp) <;> (try with_reducible rfl)))
  try simp only [Act.put, List.setIfInBounds_toArray, List.set_cons_zero, List.set_cons_succ]
  (refine wpZ_take (i := 10) (oi := ⟨some 71, .load 25 (.tmp 70), 25, _, _, none⟩) (v := ?_) rfl (by kernel_rfl) (fun _ _ _ h => h) (by assumption) (Or.inl ⟨by rfl, ?_⟩) ?_; rotate_left 1; · ((intro w hSw; (try dsimp only at hSw); go_split_ands; go_simp) <;> (try with_reducible rfl)))
  try simp only [Act.put, List.setIfInBounds_toArray, List.set_cons_zero, List.set_cons_succ]
  (refine wpZ_take (i := 11) (oi := ⟨some 72, .indexAddr 37 (.tmp 64) (.tmp 71), 0, _, _, none⟩) (v := ?_) rfl (by kernel_rfl) (fun _ _ _ h => h) (by assumption) (Or.inl ⟨by rfl, ?_⟩) ?_; rotate_left 1; · ((intro w hSw; (try dsimp only at hSw); go_split_ands; go_simp) <;> (try with_reducible rfl)))
  try simp only [Act.put, List.setIfInBounds_toArray, List.set_cons_zero, List.set_cons_succ]
  (refine wpZ_take (i := 12) (oi := ⟨some 73, .load 36 (.tmp 72), 36, _, _, none⟩) (v := ?_) rfl (by kernel_rfl) (fun _ _ _ h => h) (by assumption) (Or.inl ⟨by rfl, ?_⟩) ?_; rotate_left 1; · ((intro w hSw; (try dsimp only at hSw); go_split_ands; go_simp) <;> (try with_reducible rfl)))
  try simp only [Act.put, List.setIfInBounds_toArray, List.set_cons_zero, List.set_cons_succ]
  refine wpZ_one (i := 13) (oi := ⟨none, .store 36 (.tmp 4) (.tmp 73), 0, _, _, none⟩) rfl (by kernel_rfl) (fun K hK => ?_)
  go_simp
  refine hK.out _ _ (fun h => by simp at h) (fun _ => ?_)
  clear hK K
  try simp only [Act.put, List.setIfInBounds_toArray, List.set_cons_zero, List.set_cons_succ]
  refine wpZ_one (i := 14) (oi := ⟨some 5, .assign (.const (.bool true)), 4, _, _, none⟩) rfl (by kernel_rfl) (fun K hK => ?_)
  go_simp
  refine hK.out _ _ (fun h => by simp at h) (fun _ => ?_)
  clear hK K
  try simp only [Act.put, List.setIfInBounds_toArray, List.set_cons_zero, List.set_cons_succ]
  refine wpZ_done (by kernel_rfl) ?_ _
  go_wp2
  exact bodyPost_ret (v := .tuple #[.agg #[.slice pA t.ps.length pc, .slice rA t.rs.length rc], .bool true]) (by simp [results, Tryz.results41, go_sem]) rfl ⟨pA, pc, rA, rc, rfl, FIN.out, by repeat (first | exact Still.refl _ | refine Still.drewN ?_ _ | refine Still.drew ?_ | refine Still.alloc ?_ _ | refine Still.setNew ?_ _ _ (by simp))⟩
end Go.Proofs.YtmnebeikafigjaaGreatDoor
/- step's machine: function says no. -/
set_option linter.unusedVariables false
namespace Go.Proofs.YtmnebeikafigjaaGreatDoor
open Go.RowKit Go.Sep Go.St
variable {w : World} {S : Nat → Prop} {L : Key → Option Ck} {u : Nat} {P : Ptrs} {M : Mo} {s : Ms}
def FnNo (w : World) (e : Ending) (w' : World) : Prop := e = .returned (.tuple #[.agg #[.slice none 0 0, .slice none 0 0], .bool false]) ∧ Still w w'
set_option maxRecDepth 100000 in
set_option maxHeartbeats 1000000 in
theorem function_no_a (h : Md w S L u P M s) (f : Nat) (hf : f < 4294967296) (q : M.funcs.length ≤ f) :
    Calls Tryz.prog 41 #[.pointer (some ⟨P.mB, 0, none⟩), .int .u32 (f : Int)] w (FnNo w) := by
  obtain ⟨mc, tA, fA, cA, bA, tc, fc, cc, bc, mv, tv, gv, ev, dv, hx⟩ := h.inx
  have HS1 := fun w => has_c (f : Int) M.funcs.length false (by omega) (by omega) hx.funcs.len.2.2 (decide_eq_false (by omega)) w
  have G1 := Lib.hid HS1
  have m1 := hx.m1
  have i0 := hx.i0
  have i1 := hx.i1
  have i11 := hx.i11
  have i13 := hx.i13
  have l1 := World.block_lt_of_cell? w _ m1
  have l2 := World.block_lt_of_cell? w _ i0
  clear h hx hf q HS1
  go_enter Tryz.func41, Tryz.ntmps41
  go_wp2_with fail
  go_quiet ((go_at_call 72; first | (with_reducible exact Calls.quiet_of_same (G1.out _))))
  go_wp2
  exact bodyPost_ret (v := .tuple #[.agg #[.slice none 0 0, .slice none 0 0], .bool false]) (by simp [results, Tryz.results41, go_sem]) rfl ⟨rfl, by repeat (first | exact Still.refl _ | refine Still.drewN ?_ _ | refine Still.drew ?_ | refine Still.alloc ?_ _ | refine Still.setNew ?_ _ _ (by simp))⟩
set_option maxRecDepth 100000 in
set_option maxHeartbeats 1000000 in
theorem function_no_b (h : Md w S L u P M s) (f : Nat) (hf : f < 4294967296) (x : Int) (hx1 : M.funcs[f]? = some x) (q : M.types.length ≤ x.toNat) :
    Calls Tryz.prog 41 #[.pointer (some ⟨P.mB, 0, none⟩), .int .u32 (f : Int)] w (FnNo w) := by
  obtain ⟨mc, tA, fA, cA, bA, tc, fc, cc, bc, mv, tv, gv, ev, dv, hx⟩ := h.inx
  obtain ⟨fb, fo, fv, rfl, _, hfv, cf⟩ := hx.funcs.get1 f x hx1
  have hfv : fv = .int .u32 x := by have : [fv] = [.int .u32 x] := hfv; simpa using this
  subst hfv
  obtain ⟨x0, x1⟩ := h.wf.funcs x (List.mem_of_getElem? hx1)
  obtain ⟨n, rfl⟩ := Int.eq_ofNat_of_zero_le x0
  rw [Int.toNat_natCast] at *
  have a1 := (List.getElem?_eq_some_iff.1 hx1).1
  have HS1 := fun w => has_c (f : Int) M.funcs.length true (by omega) (by omega) hx.funcs.len.2.2 (decide_eq_true (by omega)) w
  have G1 := Lib.hid HS1
  have HS2 := fun w => has_c (n : Int) M.types.length false (by omega) (by omega) hx.types.len.2.2 (decide_eq_false (by omega)) w
  have G2 := Lib.hid HS2
  have m1 := hx.m1
  have i0 := hx.i0
  have i1 := hx.i1
  have i11 := hx.i11
  have i13 := hx.i13
  have b1 : (0 : Int) ≤ (f : Int) := by omega
  have b2 : (f : Int) < (M.funcs.length : Int) := by omega
  have l3 := World.block_lt_of_cell? w _ cf
  have l1 := World.block_lt_of_cell? w _ m1
  have l2 := World.block_lt_of_cell? w _ i0
  clear h hx hf q HS1 HS2 hfv hx1 x0 x1 a1
  go_enter Tryz.func41, Tryz.ntmps41
  go_wp2_with fail
  go_quiet ((go_at_call 72; first | (with_reducible exact Calls.quiet_of_same (G1.out _)) | (with_reducible exact Calls.quiet_of_same (G2.out _))))
  go_wp2
  exact bodyPost_ret (v := .tuple #[.agg #[.slice none 0 0, .slice none 0 0], .bool false]) (by simp [results, Tryz.results41, go_sem]) rfl ⟨rfl, by repeat (first | exact Still.refl _ | refine Still.drewN ?_ _ | refine Still.drew ?_ | refine Still.alloc ?_ _ | refine Still.setNew ?_ _ _ (by simp))⟩
set_option maxRecDepth 100000 in
set_option maxHeartbeats 1000000 in
theorem function_no_c (h : Md w S L u P M s) (f : Nat) (hf : f < 4294967296) (x : Int) (hx1 : M.funcs[f]? = some x) (q0 : x.toNat < M.types.length) (q : M.codes.length ≤ f) :
    Calls Tryz.prog 41 #[.pointer (some ⟨P.mB, 0, none⟩), .int .u32 (f : Int)] w (FnNo w) := by
  obtain ⟨mc, tA, fA, cA, bA, tc, fc, cc, bc, mv, tv, gv, ev, dv, hx⟩ := h.inx
  obtain ⟨fb, fo, fv, rfl, _, hfv, cf⟩ := hx.funcs.get1 f x hx1
  have hfv : fv = .int .u32 x := by have : [fv] = [.int .u32 x] := hfv; simpa using this
  subst hfv
  obtain ⟨x0, x1⟩ := h.wf.funcs x (List.mem_of_getElem? hx1)
  obtain ⟨n, rfl⟩ := Int.eq_ofNat_of_zero_le x0
  rw [Int.toNat_natCast] at *
  have a1 := (List.getElem?_eq_some_iff.1 hx1).1
  have HS1 := fun w => has_c (f : Int) M.funcs.length true (by omega) (by omega) hx.funcs.len.2.2 (decide_eq_true (by omega)) w
  have G1 := Lib.hid HS1
  have HS2 := fun w => has_c (n : Int) M.types.length true (by omega) (by omega) hx.types.len.2.2 (decide_eq_true (by omega)) w
  have G2 := Lib.hid HS2
  have HS3 := fun w => has_c (f : Int) M.codes.length false (by omega) (by omega) hx.codes.len.2.2 (decide_eq_false (by omega)) w
  have G3 := Lib.hid HS3
  have m1 := hx.m1
  have i0 := hx.i0
  have i1 := hx.i1
  have i11 := hx.i11
  have i13 := hx.i13
  have b1 : (0 : Int) ≤ (f : Int) := by omega
  have b2 : (f : Int) < (M.funcs.length : Int) := by omega
  have l3 := World.block_lt_of_cell? w _ cf
  have l1 := World.block_lt_of_cell? w _ m1
  have l2 := World.block_lt_of_cell? w _ i0
  clear h hx hf q HS1 HS2 HS3 hfv hx1 x0 x1 a1 q0
  go_enter Tryz.func41, Tryz.ntmps41
  go_wp2_with fail
  go_quiet ((go_at_call 72; first | (with_reducible exact Calls.quiet_of_same (G1.out _)) | (with_reducible exact Calls.quiet_of_same (G2.out _)) | (with_reducible exact Calls.quiet_of_same (G3.out _))))
  go_wp2
  exact bodyPost_ret (v := .tuple #[.agg #[.slice none 0 0, .slice none 0 0], .bool false]) (by simp [results, Tryz.results41, go_sem]) rfl ⟨rfl, by repeat (first | exact Still.refl _ | refine Still.drewN ?_ _ | refine Still.drew ?_ | refine Still.alloc ?_ _ | refine Still.setNew ?_ _ _ (by simp))⟩
set_option maxRecDepth 100000 in
set_option maxHeartbeats 1000000 in
theorem function_no_d (h : Md w S L u P M s) (f : Nat) (hf : f < 4294967296) (x : Int) (hx1 : M.funcs[f]? = some x) (q0 : x.toNat < M.types.length) (q1 : f < M.codes.length) (q : s.i.blocks.length ≤ f) :
    Calls Tryz.prog 41 #[.pointer (some ⟨P.mB, 0, none⟩), .int .u32 (f : Int)] w (FnNo w) := by
  obtain ⟨mc, tA, fA, cA, bA, tc, fc, cc, bc, mv, tv, gv, ev, dv, hx⟩ := h.inx
  obtain ⟨fb, fo, fv, rfl, _, hfv, cf⟩ := hx.funcs.get1 f x hx1
  have hfv : fv = .int .u32 x := by have : [fv] = [.int .u32 x] := hfv; simpa using this
  subst hfv
  obtain ⟨x0, x1⟩ := h.wf.funcs x (List.mem_of_getElem? hx1)
  obtain ⟨n, rfl⟩ := Int.eq_ofNat_of_zero_le x0
  rw [Int.toNat_natCast] at *
  have a1 := (List.getElem?_eq_some_iff.1 hx1).1
  have HS1 := fun w => has_c (f : Int) M.funcs.length true (by omega) (by omega) hx.funcs.len.2.2 (decide_eq_true (by omega)) w
  have G1 := Lib.hid HS1
  have HS2 := fun w => has_c (n : Int) M.types.length true (by omega) (by omega) hx.types.len.2.2 (decide_eq_true (by omega)) w
  have G2 := Lib.hid HS2
  have HS3 := fun w => has_c (f : Int) M.codes.length true (by omega) (by omega) hx.codes.len.2.2 (decide_eq_true (by omega)) w
  have G3 := Lib.hid HS3
  have HS4 := fun w => has_c (f : Int) s.i.blocks.length false (by omega) (by omega) hx.blocks.len.2.2 (decide_eq_false (by omega)) w
  have G4 := Lib.hid HS4
  have m1 := hx.m1
  have i0 := hx.i0
  have i1 := hx.i1
  have i11 := hx.i11
  have i13 := hx.i13
  have b1 : (0 : Int) ≤ (f : Int) := by omega
  have b2 : (f : Int) < (M.funcs.length : Int) := by omega
  have l3 := World.block_lt_of_cell? w _ cf
  have l1 := World.block_lt_of_cell? w _ m1
  have l2 := World.block_lt_of_cell? w _ i0
  clear h hx hf q HS1 HS2 HS3 HS4 hfv hx1 x0 x1 a1 q0 q1
  go_enter Tryz.func41, Tryz.ntmps41
  go_wp2_with fail
  go_quiet ((go_at_call 72; first | (with_reducible exact Calls.quiet_of_same (G1.out _)) | (with_reducible exact Calls.quiet_of_same (G2.out _)) | (with_reducible exact Calls.quiet_of_same (G3.out _)) | (with_reducible exact Calls.quiet_of_same (G4.out _))))
  go_wp2
  exact bodyPost_ret (v := .tuple #[.agg #[.slice none 0 0, .slice none 0 0], .bool false]) (by simp [results, Tryz.results41, go_sem]) rfl ⟨rfl, by repeat (first | exact Still.refl _ | refine Still.drewN ?_ _ | refine Still.drew ?_ | refine Still.alloc ?_ _ | refine Still.setNew ?_ _ _ (by simp))⟩
theorem function_no (h : Md w S L u P M s) (f : Nat) (hf : f < 4294967296) (ht : functionM M s.i.blocks.length f = none) :
    Calls Tryz.prog 41 #[.pointer (some ⟨P.mB, 0, none⟩), .int .u32 (f : Int)] w (FnNo w) := by
  rcases Nat.lt_or_ge f M.funcs.length with h1 | h1
  · have hx1 : M.funcs[f]? = some M.funcs[f] := List.getElem?_eq_getElem h1
    rcases Nat.lt_or_ge M.funcs[f].toNat M.types.length with h2 | h2
    · rcases Nat.lt_or_ge f M.codes.length with h3 | h3
      · rcases Nat.lt_or_ge f s.i.blocks.length with h4 | h4
        · exfalso
          simp [functionM, hx1, List.getElem?_eq_getElem h2, h3, h4] at ht
        · exact function_no_d h f hf _ hx1 h2 h3 h4
      · exact function_no_c h f hf _ hx1 h2 h3
    · exact function_no_b h f hf _ hx1 h2
  · exact function_no_a h f hf h1
end Go.Proofs.YtmnebeikafigjaaGreatDoor
/- step's machine: op, signature. -/
set_option linter.unusedVariables false
namespace Go.Proofs.YtmnebeikafigjaaGreatDoor
open Go.RowKit Go.Sep Go.St
variable {w : World} {S : Nat → Prop} {L : Key → Option Ck} {u : Nat} {P : Ptrs} {M : Mo} {s : Ms}
/-- A function's body as it lies. -/
theorem Inx.body {mc : List Value} {tA fA cA bA : Option Addr} {tc fc cc bc : Nat} {mv tv gv ev dv : Value} (hx : Inx w S L u P M s mc tA fA cA bA tc fc cc bc mv tv gv ev dv) (n : Nat) (c : Cd) (hc : M.codes[n]? = some c) :
    ∃ cb co lA lc bA' bc', cA = some ⟨cb, co, none⟩ ∧ w.cell? ⟨cb, co + n * 2, none⟩ = some (.slice lA c.ls.length lc) ∧ w.cell? ⟨cb, co + n * 2 + 1, none⟩ = some (.slice bA' c.body.length bc') ∧
      RdL w S 1 (num1 .u8) (.slice lA c.ls.length lc) c.ls ∧ RdL w S 6 (InsR w S) (.slice bA' c.body.length bc') c.body := by
  obtain ⟨cb, co, v, v', rfl, _, ⟨lv, bv, hpr, hl, hb⟩, c0, c1⟩ := hx.codes.get2 n c hc
  obtain ⟨rfl, rfl⟩ : v = lv ∧ v' = bv := by simpa using hpr
  have hl' := hl
  have hb' := hb
  obtain ⟨lA, lc, rfl, _⟩ := hl
  obtain ⟨bA', bc', rfl, _⟩ := hb
  exact ⟨cb, co, lA, lc, bA', bc', rfl, c0, c1, hl', hb'⟩
/-- An instruction as it lies. -/
theorem RdL.ins {A : Option Addr} {n c : Nat} {xs : List Ins} (h : RdL w S 6 (InsR w S) (.slice A n c) xs) (k : Nat) (x : Ins) (hx : xs[k]? = some x) :
    ∃ b o lA lc, A = some ⟨b, o, none⟩ ∧ w.cell? ⟨b, o + k * 6, none⟩ = some (.int .i64 x.op) ∧ w.cell? ⟨b, o + k * 6 + 1, none⟩ = some (.int .u32 x.a) ∧ w.cell? ⟨b, o + k * 6 + 2, none⟩ = some (.int .u32 x.b) ∧
      w.cell? ⟨b, o + k * 6 + 3, none⟩ = some (.int .u64 x.n) ∧ w.cell? ⟨b, o + k * 6 + 4, none⟩ = some (.slice lA x.l.length lc) ∧ w.cell? ⟨b, o + k * 6 + 5, none⟩ = some (.int .i64 x.t) ∧ RdL w S 1 (num1 .u32) (.slice lA x.l.length lc) x.l := by
  obtain ⟨b, o, cs, rfl, _, h1, ⟨lv, rfl, hl⟩, h4⟩ := h.get k x hx
  have hl' := hl
  obtain ⟨lA, lc, rfl, _⟩ := hl
  exact ⟨b, o, lA, lc, rfl, h4 0 _ rfl, h4 1 _ rfl, h4 2 _ rfl, h4 3 _ rfl, h4 4 _ rfl, h4 5 _ rfl, hl'⟩
set_option maxRecDepth 100000 in
set_option maxHeartbeats 1000000 in
theorem op_c (h : Md w S L u P M s) {k fB fc0 : Nat} {f : Fr} {sv vv lv bv : Value} {raws : List (Value × Value)} (hf : Frm w L u P s k f fB fc0 sv vv raws lv bv) (hb : k ≤ 1000000) (n : Nat) (hn : f.fn = n) (c : Cd) (hc : M.codes[n]? = some c) (at_ : Int) :
    Calls Tryz.prog 42 #[.pointer (some ⟨P.mB, 0, none⟩), .int .i64 at_] w fun e w' => e = .returned (.int .i64 (opM M n at_)) ∧ ∃ m, w' = w.drewN m := by
  obtain ⟨mc, tA, fA, cA, bA, tc, fc, cc, bc, mv, tv, gv, ev, dv, hx⟩ := h.inx
  obtain ⟨cb, co, lA, lc, bA', bc', rfl, c0, c1, hl, hbd⟩ := hx.body n c hc
  have m0 := hx.m0
  have m1 := hx.m1
  have i11 := hx.i11
  have f0 := hf.cell 0 _ rfl
  rw [hn, Nat.add_zero] at f0
  have G := Lib.hid (fun m => frame_c (h.still ((Still.refl w).drewN m)) (hf.still ((Still.refl w).drewN m)) hb)
  have a1 := (List.getElem?_eq_some_iff.1 hc).1
  have b1 : (0 : Int) ≤ (n : Int) := by omega
  have b2 : (n : Int) < (M.codes.length : Int) := by omega
  have HW := Lib.hid (h.wf.body c (List.mem_of_getElem? hc)).1
  rcases Int.lt_or_le at_ 0 with h0 | h0
  · have hv : opM M n at_ = -1 := by simp [opM, insAt, h0]
    rw [hv]
    have d1 : decide (at_ < 0) = true := decide_eq_true h0
    clear h hf hx hl hbd hc a1 hn hv h0 hb
    go_enter Tryz.func42, Tryz.ntmps42
    go_wp2_with fail
    go_quiet ((go_at_call 40; exact Calls.quiet_of (G.out _)))
    go_wp2
    go_ret
    exact ⟨rfl, _, rfl⟩
  · obtain ⟨a, rfl⟩ := Int.eq_ofNat_of_zero_le h0
    have e0 : (0 : Int) ≤ (a : Int) := h0
    have d1 : decide ((a : Int) < 0) = false := decide_eq_false (by omega)
    rcases Nat.lt_or_ge a c.body.length with h1 | h1
    · obtain ⟨X, hx1⟩ : ∃ X, c.body[a]? = some X := ⟨_, List.getElem?_eq_getElem h1⟩
      obtain ⟨b, o, xA, xc, rfl, x0, x1, x2, x3, x4, x5, xl⟩ := hbd.ins a _ hx1
      have hv : opM M n (a : Int) = X.op := by simp [opM, insAt, hc, hx1, show ¬ ((a : Int) < 0) by omega]
      rw [hv]
      have d2 : decide ((a : Int) < (c.body.length : Int)) = true := decide_eq_true (by omega)
      have d3 : decide (c.body.length ≤ a) = false := decide_eq_false (by omega)
      have e1 : (a : Int) < (c.body.length : Int) := by omega
      clear h hf hx hl hbd hc a1 hn hv hb h1 hx1 xl x1 x2 x3 x4 x5
      generalize X.op = op at x0 ⊢
      go_enter Tryz.func42, Tryz.ntmps42
      go_wp2_with fail
      go_quiet ((go_at_call 40; exact Calls.quiet_of (G.out _)))
      go_wp2
      go_ret
      exact ⟨rfl, _, rfl⟩
    · have hv : opM M n (a : Int) = -1 := by simp [opM, insAt, hc, List.getElem?_eq_none h1, show ¬ ((a : Int) < 0) by omega]
      rw [hv]
      have d2 : decide ((a : Int) < (c.body.length : Int)) = false := decide_eq_false (by omega)
      have d3 : decide (c.body.length ≤ a) = true := decide_eq_true h1
      clear h hf hx hl hbd hc a1 hn hv hb h1 h0
      go_enter Tryz.func42, Tryz.ntmps42
      go_wp2_with fail
      go_quiet ((go_at_call 40; exact Calls.quiet_of (G.out _)))
      go_wp2
      go_ret
      exact ⟨rfl, _, rfl⟩
/-- What signature gives. -/
theorem signature_c (h : Md w S L u P M s) (t : Int) (ht : -1000000 < t ∧ t < 1000000) (r : Option (Nat × Nat)) (hr : signM M t = r) :
    Calls Tryz.prog 122 #[.pointer (some ⟨P.mB, 0, none⟩), .int .i64 t] w fun e w' => e = .returned (.tuple #[.int .i64 ((r.getD (0, 0)).1 : Int), .int .i64 ((r.getD (0, 0)).2 : Int), .bool r.isSome]) ∧ Still w w' := by
  obtain ⟨mc, tA, fA, cA, bA, tc, fc, cc, bc, mv, tv, gv, ev, dv, hx⟩ := h.inx
  have m1 := hx.m1
  have i0 := hx.i0
  have l1 := World.block_lt_of_cell? w _ m1
  have l2 := World.block_lt_of_cell? w _ i0
  subst hr
  by_cases h0 : t = -64
  · subst h0
    have hv : signM M (-64) = some (0, 0) := by simp [signM]
    rw [hv]
    clear h hx ht hv
    go_enter Tryz.func122, Tryz.ntmps122
    go_wp2
    go_ret3
    exact ⟨rfl, Still.refl _⟩
  have d0 : (t == -64) = false := beq_eq_false_iff_ne.2 h0
  rcases Int.lt_or_le t 0 with h1 | h1
  · have hv : signM M t = some (0, 1) := by simp [signM, h0, h1]
    rw [hv]
    have d1 : decide (t < 0) = true := decide_eq_true h1
    clear h hx ht hv h0 h1
    go_enter Tryz.func122, Tryz.ntmps122
    go_wp2
    go_ret3
    exact ⟨rfl, Still.refl _⟩
  obtain ⟨a, rfl⟩ := Int.eq_ofNat_of_zero_le h1
  have d1 : decide ((a : Int) < 0) = false := decide_eq_false (by omega)
  have hneg : ¬ ((a : Int) < 0) := by omega
  rcases Nat.lt_or_ge a M.types.length with h2 | h2
  · obtain ⟨X, hx1⟩ : ∃ X, M.types[a]? = some X := ⟨_, List.getElem?_eq_getElem h2⟩
    have hv : signM M (a : Int) = some (X.ps.length, X.rs.length) := by simp [signM, h0, hneg, hx1]
    rw [hv]
    obtain ⟨tb, to_, pv, rv, rfl, _, ⟨pv', rv', hpr, hp, hr⟩, ct, ct1⟩ := hx.types.get2 a X hx1
    obtain ⟨rfl, rfl⟩ : pv = pv' ∧ rv = rv' := by simpa using hpr
    obtain ⟨pA, pc, rfl, qp⟩ := hp
    obtain ⟨rA, rc, rfl, qr⟩ := hr
    have d2 : decide (M.types.length ≤ a) = false := decide_eq_false (by omega)
    have e0 : (0 : Int) ≤ (a : Int) := by omega
    have e1 : (a : Int) < (M.types.length : Int) := by omega
    have l3 := World.block_lt_of_cell? w _ ct
    clear h hx ht hv h0 h1 hneg h2 hx1 hpr qp qr
    go_enter Tryz.func122, Tryz.ntmps122
    go_wp2_with fail
    go_quiet (fail)
    go_wp2
    go_ret3
    exact ⟨rfl, by repeat (first | exact Still.refl _ | refine Still.drewN ?_ _ | refine Still.drew ?_ | refine Still.alloc ?_ _ | refine Still.setNew ?_ _ _ (by simp))⟩
  · have hv : signM M (a : Int) = none := by simp [signM, h0, hneg, List.getElem?_eq_none h2]
    rw [hv]
    have d2 : decide (M.types.length ≤ a) = true := decide_eq_true (by omega)
    clear h hx ht hv h0 h1 hneg h2
    go_enter Tryz.func122, Tryz.ntmps122
    go_wp2
    go_ret3
    exact ⟨rfl, Still.refl _⟩
end Go.Proofs.YtmnebeikafigjaaGreatDoor
/- step's machine: lands, leaves. -/
set_option linter.unusedVariables false
namespace Go.Proofs.YtmnebeikafigjaaGreatDoor
open Go.RowKit Go.Sep Go.St
variable {w : World} {S : Nat → Prop} {L : Key → Option Ck} {u : Nat} {P : Ptrs} {M : Mo} {s : Ms}
theorem RdL.rd {k : IntKind} {A : Option Addr} {n c : Nat} {l : List Int} (h : RdL w S 1 (num1 k) (.slice A n c) l) : Rd w 1 A n (ints k l) := by
  obtain ⟨A, c, hv, h1, h2, h3, _⟩ := h
  cases hv
  refine ⟨by rw [ints_len, Nat.mul_one], fun hp => ?_⟩
  obtain ⟨b, o, rfl, _, hc⟩ := h3 hp
  refine ⟨_, rfl, rfl, fun j v hj => ?_⟩
  have hj' := (List.getElem?_eq_some_iff.1 hj).1
  rw [ints_len] at hj'
  obtain ⟨cs, g1, g2, g3⟩ := hc j _ (List.getElem?_eq_getElem hj')
  rw [show (Addr.mk b o none).add j = ⟨b, o + j, none⟩ by unfold Addr.add; split <;> simp_all]
  have hv : v = .int k l[j] := by rw [ints_get k l j _ (List.getElem?_eq_getElem hj')] at hj; injection hj with hj; exact hj.symm
  subst hv
  have g2 : cs = [.int k l[j]] := g2
  subst g2
  have := g3 0 _ rfl
  rwa [Nat.mul_one, Nat.add_zero] at this
/-- The stack as it lies. -/
structure Stk (w : World) (L : Key → Option Ck) (u : Nat) (P : Ptrs) (s : Ms) (fv vv : Value) (A : Option Addr) (N c : Nat) : Prop where
  cfg : L (.cfg u) = some (.cl P.cB P.co [fv, .slice A N c, .bool s.c.ov, .int .i64 s.c.er, vv])
  frs : FrsAt L u fv s.c.frs
  st : L (.st u) = some (.rw 26 1 (.slice A N c) (ints .u64 s.c.st))
  va : L (.va u) = some (.rw 26 1 vv (ints .u64 s.c.va))
  len : s.c.st.length = N
  le : N ≤ c
  lec : c ≤ maxLen
  row : Row w 26 1 (.slice A N c) (ints .u64 s.c.st)
  m0 : w.cell? ⟨P.mB, 0, none⟩ = some (.pointer (some ⟨P.cB, P.co, none⟩))
  c0 : w.cell? ⟨P.cB, P.co, none⟩ = some fv
  c1 : w.cell? ⟨P.cB, P.co + 1, none⟩ = some (.slice A N c)
  c2 : w.cell? ⟨P.cB, P.co + 2, none⟩ = some (.bool s.c.ov)
  c3 : w.cell? ⟨P.cB, P.co + 3, none⟩ = some (.int .i64 s.c.er)
  c4 : w.cell? ⟨P.cB, P.co + 4, none⟩ = some vv
  z : ∀ j, w.frozen? ⟨P.cB, j, none⟩ = false
theorem Md.stk (h : Md w S L u P M s) : ∃ fv vv A N c, Stk w L u P s fv vv A N c := by
  obtain ⟨fv, sv, vv, hC, hF, hS, hV⟩ := h.cfg
  obtain ⟨A, N, c, rfl, hNc, hc, hl, hrd⟩ := Row.rd (h.sep.holds _ _ hS)
  rw [ints_len, Nat.mul_one] at hl
  exact ⟨fv, vv, A, N, c, hC, hF, hS, hV, hl, hNc, hc, h.sep.holds _ _ hS, h.sep.cell0 h.mach 0 _ rfl, h.sep.cellA hC, h.sep.cell hC 1 _ rfl, h.sep.cell hC 2 _ rfl, h.sep.cell hC 3 _ rfl, h.sep.cell hC 4 _ rfl, fun j => h.sep.frozen hC j⟩
/-- A row cut. -/
theorem Row.cut {w : World} {e : Nat} {k : IntKind} {A : Option Addr} {N c : Nat} {l : List Int} (h : Row w e 1 (.slice A N c) (ints k l)) (n : Nat) (hn : n ≤ N) : Row w e 1 (.slice A n c) (ints k (l.take n)) := by
  obtain ⟨A', n', c', hv, h1, hA, h2, h3, h4⟩ := h
  cases hv
  rw [ints_len, Nat.mul_one] at h1
  refine ⟨A, n, c, rfl, by rw [ints_len, List.length_take]; omega, hA, by omega, h3, fun h0 => ?_⟩
  obtain ⟨g, cur, rfl, hg1, hc1, ht⟩ := h4 h0
  refine ⟨g, cur, rfl, hg1, hc1, ?_⟩
  rw [Nat.mul_one] at ht ⊢
  have := congrArg (List.take n) ht
  rw [List.take_take, Nat.min_eq_left hn] at this
  rw [this]
  simp only [ints, List.map_take]
theorem blk_cut {A : Option Addr} {n m c : Nat} : rowBlock (.slice A n c) = rowBlock (.slice A m c) := by cases A <;> rfl
set_option maxRecDepth 100000 in
set_option maxHeartbeats 1000000 in
theorem lands_yes (h : Md w S L u P M s) (n ht : Int) (k nn hh : Nat) (hn : n = nn) (hk : s.c.st.length = k + nn) (hht : ht = hh) (hle : hh ≤ k) (hb : s.c.st.length ≤ 1000000000) :
    Calls Tryz.prog 123 #[.pointer (some ⟨P.mB, 0, none⟩), .int .i64 n, .int .i64 ht] w fun e w' => e = .returned (.bool true) ∧ ToS w S L u P M w' { s with c := { s.c with st := s.c.st.take hh ++ s.c.st.drop k } } := by
  subst hht
  have HP := Lib.hid (pops_yes h n k nn hn hk hb)
  have HL := Lib.hid (And.intro hk hb)
  have HH := Lib.hid hle
  have hn0 : (0 : Int) ≤ n := by omega
  clear h hn hk hb hle hn0
  go_enter Tryz.func123, Tryz.ntmps123
  go_wp2_with fail
  refine HP.out.mono ?_
  rintro e w1 ⟨B, n1, c1, rfl, S1, L1, h1, k1, ro1, hS1, rd1, sf1⟩
  obtain ⟨fv, vv, A, N, c, hs⟩ := h1.stk
  have hN : N = k := by have := hs.len; have := HL.out; simp at *; omega
  subst hN
  have m0 := hs.m0
  have c1' := hs.c1
  have d1 : decide ((hh : Int) < 0) = false := decide_eq_false (by omega)
  have d2 : decide (N < hh) = false := decide_eq_false (by have := HH.out; omega)
  have H1 := Lib.hid (And.intro h1 (And.intro k1 (And.intro ro1 (And.intro hS1 (And.intro rd1 (And.intro hs sf1))))))
  clear h1 k1 ro1 hS1 rd1 hs HP sf1
  go_wp2_with (go_at_call 39; refine (stuck_no _ _).mono ?_; rintro e w2 ⟨rfl, rfl⟩)
  obtain ⟨h1, k1, ro1, hS1, rd1, hs, sf1⟩ := H1.out
  have hrow := Row.cut hs.row hh HH.out
  have hst : ((s.c.st.take N).take hh) = s.c.st.take hh := by rw [List.take_take, Nat.min_eq_left HH.out]
  simp only [hst] at hrow
  have key : ∀ v1 w2, Row w2 26 1 v1 (ints .u64 (s.c.st.take hh) ++ ints .u64 (s.c.st.drop N)) → w1.drew.grownBy w2 (rowBlock (.slice A hh c)) → (rowBlock v1 = rowBlock (.slice A hh c) ∨ ∃ b, rowBlock v1 = some b ∧ w1.drew.heap.size ≤ b) →
      ToS w S L u P M (w2.setCell ⟨P.cB, P.co + 1, none⟩ v1) { s with c := { s.c with st := s.c.st.take hh ++ s.c.st.drop N } } := by
    intro v1 w2 r g a
    rw [← ints_app] at r
    rw [blk_cut (m := N)] at g a
    obtain ⟨S', L', x1, x2, x3, x4, x5⟩ := stack_put h1.drew hs.cfg hs.frs hs.st hs.va r g a
    exact ⟨S', L', x1, k1.trans x2, ro1.trans x3 hS1, fun b hb => x4 b (hS1 b hb), sf1.trans x5⟩
  have cl : ∀ w2, w1.drew.grownBy w2 (rowBlock (.slice A hh c)) → w2.cell? ⟨P.cB, P.co + 1, none⟩ = some (.slice A N c) ∧ w2.cell? ⟨P.mB, 0, none⟩ = some (.pointer (some ⟨P.cB, P.co, none⟩)) ∧ w2.frozen? ⟨P.cB, P.co + 1, none⟩ = false := by
    intro w2 g
    rw [blk_cut (m := N)] at g
    exact ⟨(h1.sep.drew.grown_cell hs.st g hs.cfg _ rfl).1.trans c1', (h1.sep.drew.grown_cell hs.st g h1.mach _ rfl).1.trans m0, (h1.sep.drew.grown_cell hs.st g hs.cfg _ rfl).2.trans (hs.z _)⟩
  obtain ⟨i0, hi, _, hz1, _⟩ := info_parts infoU64
  have hcut := slice_to (P := Tryz.prog) (t := 57) Tryz.underlying57 hi A N c hh HH.out hs.le
  have KEY := Lib.hid key
  have CL := Lib.hid cl
  have HR := Lib.hid hrow
  have HY := Lib.hid rd1.rd
  have hbytes : ((ints .u64 (s.c.st.take hh)).length + (ints .u64 (s.c.st.drop N)).length) * 8 ≤ 140737488355328 := by
    rw [ints_len, ints_len, List.length_take, List.length_drop]; have := HL.out; omega
  clear h1 k1 ro1 hS1 rd1 hs hrow hst key cl hi hz1 H1 d1 d2 sf1
  refine wp_region_z (fun w' => w'.cell? ⟨P.mB, 0, none⟩ = some (.pointer (some ⟨P.cB, P.co, none⟩)) ∧ w'.cell? ⟨P.cB, P.co + 1, none⟩ = some (.slice A N c)) (fun j => j == 15 || j == 16 || j == 17) (by kernel_rfl) ?_ (fun hHeld => ?_)
  · first | exact ⟨m0, c1'⟩ | exact ⟨q2, q1⟩
  (refine wpZ_take (i := 0) (oi := ⟨some 35, .move (.tmp 0), 103, _, _, none⟩) (v := ?_) rfl (by kernel_rfl) (fun _ _ _ h => h) (by assumption) (Or.inl ⟨by rfl, ?_⟩) ?_; rotate_left 1; · ((intro w hSw; (try dsimp only at hSw); go_split_ands; go_simp) <;> (try with_reducible rfl)))
  try simp only [Act.put, List.setIfInBounds_toArray, List.set_cons_zero, List.set_cons_succ]
  (refine wpZ_take (i := 1) (oi := ⟨some 36, .nilCheck (.tmp 35), 0, _, _, none⟩) (v := ?_) rfl (by kernel_rfl) (fun _ _ _ h => h) (by assumption) (Or.inl ⟨by rfl, ?_⟩) ?_; rotate_left 1; · ((intro w hSw; (try dsimp only at hSw); go_split_ands; go_simp) <;> (try with_reducible rfl)))
  try simp only [Act.put, List.setIfInBounds_toArray, List.set_cons_zero, List.set_cons_succ]
  (refine wpZ_take (i := 2) (oi := ⟨some 37, .fieldAddr 105 (.tmp 36) 0, 0, _, _, none⟩) (v := ?_) rfl (by kernel_rfl) (fun _ _ _ h => h) (by assumption) (Or.inl ⟨by rfl, ?_⟩) ?_; rotate_left 1; · ((intro w hSw; (try dsimp only at hSw); go_split_ands; go_simp) <;> (try with_reducible rfl)))
  try simp only [Act.put, List.setIfInBounds_toArray, List.set_cons_zero, List.set_cons_succ]
  (refine wpZ_take (i := 3) (oi := ⟨some 38, .load 62 (.tmp 37), 62, _, _, none⟩) (v := ?_) rfl (by kernel_rfl) (fun _ _ _ h => h) (by assumption) (Or.inl ⟨by rfl, ?_⟩) ?_; rotate_left 1; · ((intro w hSw; (try dsimp only at hSw); go_split_ands; go_simp) <;> (try with_reducible rfl)))
  try simp only [Act.put, List.setIfInBounds_toArray, List.set_cons_zero, List.set_cons_succ]
  (refine wpZ_take (i := 4) (oi := ⟨some 39, .move (.tmp 0), 103, _, _, none⟩) (v := ?_) rfl (by kernel_rfl) (fun _ _ _ h => h) (by assumption) (Or.inl ⟨by rfl, ?_⟩) ?_; rotate_left 1; · ((intro w hSw; (try dsimp only at hSw); go_split_ands; go_simp) <;> (try with_reducible rfl)))
  try simp only [Act.put, List.setIfInBounds_toArray, List.set_cons_zero, List.set_cons_succ]
  (refine wpZ_take (i := 5) (oi := ⟨some 40, .nilCheck (.tmp 39), 0, _, _, none⟩) (v := ?_) rfl (by kernel_rfl) (fun _ _ _ h => h) (by assumption) (Or.inl ⟨by rfl, ?_⟩) ?_; rotate_left 1; · ((intro w hSw; (try dsimp only at hSw); go_split_ands; go_simp) <;> (try with_reducible rfl)))
  try simp only [Act.put, List.setIfInBounds_toArray, List.set_cons_zero, List.set_cons_succ]
  (refine wpZ_take (i := 6) (oi := ⟨some 41, .fieldAddr 105 (.tmp 40) 0, 0, _, _, none⟩) (v := ?_) rfl (by kernel_rfl) (fun _ _ _ h => h) (by assumption) (Or.inl ⟨by rfl, ?_⟩) ?_; rotate_left 1; · ((intro w hSw; (try dsimp only at hSw); go_split_ands; go_simp) <;> (try with_reducible rfl)))
  try simp only [Act.put, List.setIfInBounds_toArray, List.set_cons_zero, List.set_cons_succ]
  (refine wpZ_take (i := 7) (oi := ⟨some 42, .load 62 (.tmp 41), 62, _, _, none⟩) (v := ?_) rfl (by kernel_rfl) (fun _ _ _ h => h) (by assumption) (Or.inl ⟨by rfl, ?_⟩) ?_; rotate_left 1; · ((intro w hSw; (try dsimp only at hSw); go_split_ands; go_simp) <;> (try with_reducible rfl)))
  try simp only [Act.put, List.setIfInBounds_toArray, List.set_cons_zero, List.set_cons_succ]
  (refine wpZ_take (i := 8) (oi := ⟨some 43, .nilCheck (.tmp 42), 0, _, _, none⟩) (v := ?_) rfl (by kernel_rfl) (fun _ _ _ h => h) (by assumption) (Or.inl ⟨by rfl, ?_⟩) ?_; rotate_left 1; · ((intro w hSw; (try dsimp only at hSw); go_split_ands; go_simp) <;> (try with_reducible rfl)))
  try simp only [Act.put, List.setIfInBounds_toArray, List.set_cons_zero, List.set_cons_succ]
  (refine wpZ_take (i := 9) (oi := ⟨some 44, .fieldAddr 59 (.tmp 43) 1, 0, _, _, none⟩) (v := ?_) rfl (by kernel_rfl) (fun _ _ _ h => h) (by assumption) (Or.inl ⟨by rfl, ?_⟩) ?_; rotate_left 1; · ((intro w hSw; (try dsimp only at hSw); go_split_ands; go_simp) <;> (try with_reducible rfl)))
  try simp only [Act.put, List.setIfInBounds_toArray, List.set_cons_zero, List.set_cons_succ]
  (refine wpZ_take (i := 10) (oi := ⟨some 45, .load 57 (.tmp 44), 57, _, _, none⟩) (v := ?_) rfl (by kernel_rfl) (fun _ _ _ h => h) (by assumption) (Or.inl ⟨by rfl, ?_⟩) ?_; rotate_left 1; · ((intro w hSw; (try dsimp only at hSw); go_split_ands; go_simp) <;> (try with_reducible rfl)))
  try simp only [Act.put, List.setIfInBounds_toArray, List.set_cons_zero, List.set_cons_succ]
  (refine wpZ_take (i := 11) (oi := ⟨some 46, .move (.tmp 2), 3, _, _, none⟩) (v := ?_) rfl (by kernel_rfl) (fun _ _ _ h => h) (by assumption) (Or.inl ⟨by rfl, ?_⟩) ?_; rotate_left 1; · ((intro w hSw; (try dsimp only at hSw); go_split_ands; go_simp) <;> (try with_reducible rfl)))
  try simp only [Act.put, List.setIfInBounds_toArray, List.set_cons_zero, List.set_cons_succ]
  (refine wpZ_take (i := 12) (oi := ⟨some 47, .slice 57 (.tmp 45) none (some (.tmp 46)) none, 57, _, _, none⟩) (v := ?_) rfl (by kernel_rfl) (fun _ _ _ h => h) (by assumption) (Or.inl ⟨by rfl, ?_⟩) ?_; rotate_left 1; · ((intro w hSw; (try dsimp only at hSw); go_split_ands; go_simp) <;> (try with_reducible rfl)))
  try simp only [Act.put, List.setIfInBounds_toArray, List.set_cons_zero, List.set_cons_succ]
  (refine wpZ_take (i := 13) (oi := ⟨some 48, .move (.tmp 7), 57, _, _, none⟩) (v := ?_) rfl (by kernel_rfl) (fun _ _ _ h => h) (by assumption) (Or.inl ⟨by rfl, ?_⟩) ?_; rotate_left 1; · ((intro w hSw; (try dsimp only at hSw); go_split_ands; go_simp) <;> (try with_reducible rfl)))
  try simp only [Act.put, List.setIfInBounds_toArray, List.set_cons_zero, List.set_cons_succ]
  refine wpZ_one (i := 14) (oi := ⟨some 49, .call { callee := .builtin .append, args := #[.tmp 47, .tmp 48], argTypes := #[57, 57] }, 57, _, _, none⟩) rfl (by kernel_rfl) (fun K hK => ?_)
  refine step_append_row (by rfl) _ _ _ (by rfl) 26 1 _ 8 Tryz.underlying57 infoU64 rfl (by omega) (by omega) (.slice A hh c) _ (by rfl) B n1 c1 _ (by rfl) HR.out HY.out (ints_one _ _) hbytes ?_; intro B1 n2 c2 w2 hr1 hg1 ha1; obtain ⟨q1, q2, q3⟩ := CL.out w2 hg1.out
  refine hK.out _ _ (fun _ => by (first | exact ⟨m0, c1'⟩ | exact ⟨q2, q1⟩)) (fun hh => ?_)
  have hHeld := hh rfl
  clear hK K
  try simp only [Act.put, List.setIfInBounds_toArray, List.set_cons_zero, List.set_cons_succ]
  refine wpZ_one (i := 15) (oi := ⟨some 50, .nilCheck (.tmp 38), 0, _, _, none⟩) rfl (by kernel_rfl) (fun K hK => ?_)
  go_simp
  refine hK.out _ _ (fun h => by simp at h) (fun _ => ?_)
  clear hK K
  try simp only [Act.put, List.setIfInBounds_toArray, List.set_cons_zero, List.set_cons_succ]
  refine wpZ_one (i := 16) (oi := ⟨some 51, .fieldAddr 59 (.tmp 50) 1, 0, _, _, none⟩) rfl (by kernel_rfl) (fun K hK => ?_)
  go_simp
  refine hK.out _ _ (fun h => by simp at h) (fun _ => ?_)
  clear hK K
  try simp only [Act.put, List.setIfInBounds_toArray, List.set_cons_zero, List.set_cons_succ]
  refine wpZ_one (i := 17) (oi := ⟨none, .store 57 (.tmp 51) (.tmp 49), 0, _, _, none⟩) rfl (by kernel_rfl) (fun K hK => ?_)
  go_simp
  refine hK.out _ _ (fun h => by simp at h) (fun _ => ?_)
  clear hK K
  try simp only [Act.put, List.setIfInBounds_toArray, List.set_cons_zero, List.set_cons_succ]
  refine wpZ_done (by kernel_rfl) ?_ _
  go_wp2
  go_ret
  exact ⟨rfl, KEY.out _ _ hr1.out hg1.out ha1.out⟩
theorem lands_no (h : Md w S L u P M s) (n ht : Int) (hn : n < 0 ∨ (s.c.st.length : Int) < n) (hn2 : -4611686018427387904 < n ∧ n < 4611686018427387904) (hb : s.c.st.length ≤ 1000000000) :
    Calls Tryz.prog 123 #[.pointer (some ⟨P.mB, 0, none⟩), .int .i64 n, .int .i64 ht] w fun e w' => e = .returned (.bool false) ∧ To w S L u P M w' { s with c := endsC 17 } := by
  have HP := Lib.hid (pops_no h n hn hn2 hb)
  clear h hn hn2 hb
  go_enter Tryz.func123, Tryz.ntmps123
  go_wp2_with fail
  refine HP.out.mono ?_
  rintro e w1 ⟨rfl, ht1⟩
  have HT := Lib.hid ht1
  clear ht1 HP
  go_wp2
  go_ret
  exact ⟨rfl, HT.out⟩
set_option maxRecDepth 100000 in
set_option maxHeartbeats 1000000 in
theorem lands_no2 (h : Md w S L u P M s) (n ht : Int) (k nn : Nat) (hn : n = nn) (hk : s.c.st.length = k + nn) (hht : ht < 0 ∨ (k : Int) < ht) (hb : s.c.st.length ≤ 1000000000) :
    Calls Tryz.prog 123 #[.pointer (some ⟨P.mB, 0, none⟩), .int .i64 n, .int .i64 ht] w fun e w' => e = .returned (.bool false) ∧ To w S L u P M w' { s with c := endsC 17 } := by
  have HP := Lib.hid (pops_yes h n k nn hn hk hb)
  have HL := Lib.hid (And.intro hk hb)
  have HH := Lib.hid hht
  clear h hn hk hb hht
  go_enter Tryz.func123, Tryz.ntmps123
  go_wp2_with fail
  refine HP.out.mono ?_
  rintro e w1 ⟨B, n1, c1, rfl, S1, L1, h1, k1, ro1, hS1, rd1, sf1⟩
  obtain ⟨fv, vv, A, N, c, hs⟩ := h1.stk
  have hN : N = k := by have := hs.len; have := HL.out; simp at *; omega
  subst hN
  have m0 := hs.m0
  have c1' := hs.c1
  have HE := Lib.hid (stuck_yes h1)
  have HK := Lib.hid (And.intro k1 (And.intro ro1 hS1))
  clear h1 k1 ro1 hS1 rd1 hs HP sf1
  rcases Int.lt_or_le ht 0 with h0 | h0
  · have d1 : decide (ht < 0) = true := decide_eq_true h0
    clear h0
    go_wp2_with fail
    refine HE.out.mono ?_
    rintro e w2 ⟨rfl, ht2⟩
    have HT := Lib.hid (To.trans HK.out.1 HK.out.2.1 HK.out.2.2 ht2)
    clear ht2 HE
    go_wp2
    go_ret
    exact ⟨rfl, HT.out⟩
  · have d1 : decide (ht < 0) = false := decide_eq_false (by omega)
    have d2 : decide ((N : Int) < ht) = true := decide_eq_true (by have := HH.out; omega)
    clear h0
    go_wp2_with fail
    refine HE.out.mono ?_
    rintro e w2 ⟨rfl, ht2⟩
    have HT := Lib.hid (To.trans HK.out.1 HK.out.2.1 HK.out.2.2 ht2)
    clear ht2 HE
    go_wp2
    go_ret
    exact ⟨rfl, HT.out⟩
/-- lands, told by landsC. -/
def LandsR (w : World) (S : Nat → Prop) (L : Key → Option Ck) (u : Nat) (P : Ptrs) (M : Mo) (s : Ms) (r : Option Cf) (e : Ending) (w' : World) : Prop := match r with
  | none => e = .returned (.bool false) ∧ To w S L u P M w' { s with c := endsC 17 }
  | some C1 => e = .returned (.bool true) ∧ ToS w S L u P M w' { s with c := C1 }
theorem lands_r (h : Md w S L u P M s) (n ht : Int) (hn2 : -4611686018427387904 < n ∧ n < 4611686018427387904) (hb : s.c.st.length ≤ 1000000000) (r : Option Cf) (hr : landsC s.c n ht = r) :
    Calls Tryz.prog 123 #[.pointer (some ⟨P.mB, 0, none⟩), .int .i64 n, .int .i64 ht] w (LandsR w S L u P M s r) := by
  subst hr
  by_cases h0 : n < 0 ∨ (s.c.st.length : Int) < n
  · have : landsC s.c n ht = none := by simp [landsC, popsC, h0]
    rw [this]
    exact lands_no h n ht h0 hn2 hb
  · obtain ⟨nn, rfl⟩ := Int.eq_ofNat_of_zero_le (show 0 ≤ n by omega)
    have hk : s.c.st.length = (s.c.st.length - nn) + nn := by omega
    by_cases h1 : ht < 0 ∨ ((s.c.st.length - nn : Nat) : Int) < ht
    · have : landsC s.c nn ht = none := by
        simp only [landsC, popsC, if_neg h0, Int.toNat_natCast, List.length_take]
        rw [if_pos (by omega)]
      rw [this]
      exact lands_no2 h nn ht _ nn rfl hk h1 hb
    · obtain ⟨hh, rfl⟩ := Int.eq_ofNat_of_zero_le (show 0 ≤ ht by omega)
      have : landsC s.c nn hh = some { s.c with st := s.c.st.take hh ++ s.c.st.drop (s.c.st.length - nn) } := by
        simp only [landsC, popsC, if_neg h0, Int.toNat_natCast, List.length_take]
        rw [if_neg (by omega), List.take_take, Nat.min_eq_left (by omega)]
      rw [this]
      exact lands_yes h nn hh _ nn hh rfl hk rfl (by omega) hb
theorem lands_c (h : Md w S L u P M s) (n ht : Int) (hn2 : -4611686018427387904 < n ∧ n < 4611686018427387904) (hb : s.c.st.length ≤ 1000000000) (r : Option Cf) (hr : landsC s.c n ht = r) :
    Calls Tryz.prog 123 #[.pointer (some ⟨P.mB, 0, none⟩), .int .i64 n, .int .i64 ht] w fun e w' => e = .returned (.bool r.isSome) ∧ To w S L u P M w' { s with c := r.getD (endsC 17) } := by
  refine (lands_r h n ht hn2 hb r hr).mono ?_
  intro e w' hq
  cases r with
  | none => exact hq
  | some C1 => exact ⟨hq.1, hq.2.to⟩
/-- The last frame lies where it did. -/
theorem Frm.same {w' : World} {S' : Nat → Prop} {L' : Key → Option Ck} {s' : Ms} {k fB fc : Nat} {f : Fr} {sv vv lv bv : Value} {raws : List (Value × Value)} (hf : Frm w L u P s k f fB fc sv vv raws lv bv) (h' : Md w' S' L' u P M s') (hs : SameF u L L') (hfr : s'.c.frs = s.c.frs) (hk : s.c.frs.length = k + 1) :
    ∃ sv' vv' raws', Frm w' L' u P s' k f fB fc sv' vv' raws' lv bv := by
  obtain ⟨fB2, fc2, sv2, vv2, raws2, lv2, bv2, hf2⟩ := h'.frm k f (by rw [hfr]; exact hk) (by rw [hfr]; exact hf.top)
  obtain ⟨q1, cB, co, fv, sv1, sv1', b, b', e, e', vv1, a1, a2⟩ := hs
  have e1 := hf2.cfg
  rw [a2] at e1
  have e0 := hf.cfg
  rw [a1] at e0
  simp only [Option.some.injEq, Ck.cl.injEq, List.cons.injEq, and_true] at e0 e1
  have e2 : Value.slice (some ⟨fB2, 0, none⟩) (k + 1) fc2 = Value.slice (some ⟨fB, 0, none⟩) (k + 1) fc := e1.2.2.1.symm.trans e0.2.2.1
  simp only [Value.slice.injEq, Option.some.injEq, Addr.mk.injEq, and_true, true_and] at e2
  obtain ⟨rfl, rfl⟩ := e2
  have e3 := hf2.loc
  rw [q1 _ (by simp) (by simp), hf.loc] at e3
  simp only [Option.some.injEq, Ck.rw.injEq, true_and, and_true] at e3
  subst e3
  have e4 := hf2.lab
  rw [q1 _ (by simp) (by simp), hf.lab] at e4
  simp only [Option.some.injEq, Ck.rw.injEq, true_and, and_true] at e4
  subst e4
  exact ⟨sv2, vv2, raws2, hf2⟩
theorem landsC_frs {C C1 : Cf} {n ht : Int} (hr : landsC C n ht = some C1) : C1.frs = C.frs := by
  unfold landsC popsC at hr
  split at hr
  · cases hr
  · rename_i l C' hp
    split at hp
    · cases hp
    · injection hp with hp
      injection hp with _ hp
      subst hp
      split at hr
      · cases hr
      · injection hr with hr
        rw [← hr]
end Go.Proofs.YtmnebeikafigjaaGreatDoor
/- step's machine: leaves. -/
set_option linter.unusedVariables false
namespace Go.Proofs.YtmnebeikafigjaaGreatDoor
open Go.RowKit Go.Sep Go.St
variable {w : World} {S : Nat → Prop} {L : Key → Option Ck} {u : Nat} {P : Ptrs} {M : Mo} {s : Ms}
theorem infoFr : (Tryz.prog.info? 113).map (fun i => (i.zero, i.size, i.bytes)) = some (some (.agg #[.int .i64 0, .int .i64 0, .int .i64 0, .int .i64 0, .slice none 0 0, .slice none 0 0]), 6, 80) := by kernel_rfl
theorem zip_take {α β : Type} : ∀ (l : List α) (r : List β) (k : Nat), (l.zip r).take k = (l.take k).zip (r.take k)
  | [], r, k => by simp
  | x :: l, [], k => by cases k <;> simp
  | x :: l, y :: r, 0 => by simp
  | x :: l, y :: r, k + 1 => by simp [zip_take l r k]
def leftC (k : Nat) (C1 : Cf) : Cf := if k = 0 then ⟨[], [], true, 0, C1.st⟩ else { C1 with frs := C1.frs.take k }
/-- The frames are cut. -/
theorem frames_cut {k fB fc : Nat} {f : Fr} {sv vv lv bv : Value} {raws : List (Value × Value)} (h : Md w S L u P M s) (hf : Frm w L u P s k f fB fc sv vv raws lv bv) :
    To w S L u P M (w.setCell ⟨P.cB, P.co, none⟩ (.slice (some ⟨fB, 0, none⟩) k fc)) { s with c := { s.c with frs := s.c.frs.take k } } := by
  have hl := hf.len
  have hr : Row w 113 6 (.slice (some ⟨fB, 0, none⟩) k fc) (((s.c.frs.take k).zip (raws.take k)).flatMap frG) := by
    obtain ⟨A, n, c, hv, h1, hA, h2, h3, h4⟩ := h.sep.holds _ _ hf.fr
    cases hv
    refine ⟨_, k, fc, rfl, ?_, (fun h => nomatch h), by omega, h3, fun h0 => ?_⟩
    · rw [flat_len frG 6 frG_len, List.length_zip, List.length_take, List.length_take, hl, Nat.min_self]
      rw [flat_len frG 6 frG_len, List.length_zip, hl, Nat.min_self] at h1
      rw [Nat.min_eq_left (by omega)]
    · obtain ⟨g, cur, he, hg, hcs, ht⟩ := h4 h0
      refine ⟨g, cur, he, hg, hcs, ?_⟩
      have := congrArg (List.take (k * 6)) ht
      rw [List.take_take, Nat.min_eq_left (by omega), flat_take frG 6 frG_len, zip_take] at this
      exact this
  obtain ⟨s1, r1⟩ := h.sep.grow hf.fr hr ⟨rfl, rfl, rfl, Nat.le_refl _, fun _ _ _ => rfl⟩ (.inl rfl)
  have hC1 : upd L (.fr u) (.rw 113 6 (.slice (some ⟨fB, 0, none⟩) k fc) (((s.c.frs.take k).zip (raws.take k)).flatMap frG)) (.cfg u) = some (.cl P.cB P.co [.slice (some ⟨fB, 0, none⟩) (k + 1) fc, sv, .bool s.c.ov, .int .i64 s.c.er, vv]) := by rw [upd_other _ _ (by simp)]; exact hf.cfg
  have s2 := s1.set hC1 0 (by simp) (.slice (some ⟨fB, 0, none⟩) k fc)
  have r2 := r1.trans' (s1.ro_setCell hC1 (P.co + 0) (.slice (some ⟨fB, 0, none⟩) k fc))
  rw [Nat.add_zero] at s2 r2
  refine ⟨S, _, h.recfg s2 r2 (fun _ h => h) ⟨.slice (some ⟨fB, 0, none⟩) k fc, sv, vv, ?_, ⟨raws.take k, by simp [hl], ?_, fun k' f' r' x y => ?_⟩, ?_, ?_⟩ (cf_upd (cf_upd (fun _ _ => rfl) rfl) rfl), ((Keep.refl u L).upd rfl).upd rfl, r2, fun _ h => h⟩
  · rw [upd_same]; rfl
  · rw [upd_other _ _ (by simp), upd_same]; rfl
  · rw [upd_other _ _ (by simp), upd_other _ _ (by simp), upd_other _ _ (by simp), upd_other _ _ (by simp)]
    have x' : s.c.frs[k']? = some f' := by
      have x : (s.c.frs.take k)[k']? = some f' := x
      rw [List.getElem?_take] at x
      split at x
      · exact x
      · cases x
    have y' : raws[k']? = some r' := by
      rw [List.getElem?_take] at y
      split at y
      · exact y
      · cases y
    exact hf.all k' f' r' x' y'
  · rw [upd_other _ _ (by simp), upd_other _ _ (by simp)]; exact hf.st
  · rw [upd_other _ _ (by simp), upd_other _ _ (by simp)]; exact hf.va
/-- A config that has ended: its stack is its values. -/
theorem cfg_done {fv sv vv : Value} (h : Md w S L u P M s) (hC : L (.cfg u) = some (.cl P.cB P.co [fv, sv, .bool s.c.ov, .int .i64 s.c.er, vv])) (hS : L (.st u) = some (.rw 26 1 sv (ints .u64 s.c.st))) :
    To w S L u P M (((((w.setCell ⟨P.cB, P.co, none⟩ (.slice none 0 0)).setCell ⟨P.cB, P.co + 1, none⟩ (.slice none 0 0)).setCell ⟨P.cB, P.co + 2, none⟩ (.bool true)).setCell ⟨P.cB, P.co + 3, none⟩ (.int .i64 0)).setCell ⟨P.cB, P.co + 4, none⟩ sv) { s with c := ⟨[], [], true, 0, s.c.st⟩ } := by
  obtain ⟨s1, r1⟩ := h.sep.set5 hC (.slice none 0 0) (.slice none 0 0) (.bool true) (.int .i64 0) sv
  have s2 := (((s1.name (k := .st u) (k' := .va u) (by rw [upd_other _ _ (by simp)]; exact hS)).nilRow (.fr u) 113 6 none).nilRow (.st u) 26 1 none)
  refine ⟨S, _, h.recfg s2 r1 (fun _ h => h) ⟨.slice none 0 0, .slice none 0 0, sv, ?_, ⟨[], rfl, ?_, fun k f r hk => by simp at hk⟩, ?_, ?_⟩ ?_, ?_, r1, fun _ h => h⟩
  · rw [upd_other _ _ (by simp), upd_other _ _ (by simp), upd_other _ _ (by simp), del_other _ (by simp), upd_same]
  · rw [upd_other _ _ (by simp), upd_same]; rfl
  · rw [upd_same]; rfl
  · rw [upd_other _ _ (by simp), upd_other _ _ (by simp), upd_same]
  · exact cf_upd (cf_upd (cf_upd (cf_del (cf_upd (fun _ _ => rfl) rfl) rfl) rfl) rfl) rfl
  · have k1 : Keep u L (Go.Sep.del (upd L (.cfg u) (.cl P.cB P.co [.slice none 0 0, .slice none 0 0, .bool true, .int .i64 0, sv])) (.st u)) := fun x hx => by
      rw [del_other _ (by rintro rfl; exact hx rfl)]
      exact ((Keep.refl u L).upd rfl) x hx
    exact ((k1.upd rfl).upd rfl).upd rfl
set_option maxRecDepth 100000 in
set_option maxHeartbeats 2000000 in
theorem leaves_no (h : Md w S L u P M s) {k fB fc : Nat} {f : Fr} {sv vv lv bv : Value} {raws : List (Value × Value)} (hf : Frm w L u P s k f fB fc sv vv raws lv bv) (hk2 : k ≤ 1000000)
    (hn2 : -4611686018427387904 < f.ar ∧ f.ar < 4611686018427387904) (hb : s.c.st.length ≤ 1000000000) (hr : landsC s.c f.ar f.ht = none) :
    Calls Tryz.prog 78 #[.pointer (some ⟨P.mB, 0, none⟩)] w fun e w' => e = .returned (.tuple #[]) ∧ To w S L u P M w' { s with c := endsC 17 } := by
  have HF := Lib.hid (frame_c h hf hk2)
  have HLA := Lib.hid (fun m => lands_c (h.still ((Still.refl w).drewN m)) f.ar f.ht hn2 hb _ hr)
  have f2 := hf.cell 2 _ rfl
  have f3 := hf.cell 3 _ rfl
  clear h hf hk2 hn2 hb hr
  go_enter Tryz.func78, Tryz.ntmps78
  go_wp2_with fail
  refine HF.out.mono ?_
  rintro e w1 ⟨rfl, n1, rfl⟩
  go_wp2_with fail
  refine wp_region_z (fun w' => w'.cell? ⟨fB, k * 6 + 2, none⟩ = some (.int .i64 f.ar) ∧ w'.cell? ⟨fB, k * 6 + 3, none⟩ = some (.int .i64 f.ht)) (fun j => j == 9 || j == 10) (by kernel_rfl) ?_ (fun hHeld => ?_)
  · go_keep
  (refine wpZ_take (i := 0) (oi := ⟨some 5, .move (.tmp 0), 103, _, _, none⟩) (v := ?_) rfl (by kernel_rfl) (fun _ _ _ h => h) (by assumption) (Or.inl ⟨by rfl, ?_⟩) ?_; rotate_left 1; · ((intro w hSw; (try dsimp only at hSw); go_split_ands; go_simp) <;> (try with_reducible rfl)))
  try simp only [Act.put, List.setIfInBounds_toArray, List.set_cons_zero, List.set_cons_succ]
  (refine wpZ_take (i := 1) (oi := ⟨some 6, .move (.tmp 2), 107, _, _, none⟩) (v := ?_) rfl (by kernel_rfl) (fun _ _ _ h => h) (by assumption) (Or.inl ⟨by rfl, ?_⟩) ?_; rotate_left 1; · ((intro w hSw; (try dsimp only at hSw); go_split_ands; go_simp) <;> (try with_reducible rfl)))
  try simp only [Act.put, List.setIfInBounds_toArray, List.set_cons_zero, List.set_cons_succ]
  (refine wpZ_take (i := 2) (oi := ⟨some 7, .nilCheck (.tmp 6), 0, _, _, none⟩) (v := ?_) rfl (by kernel_rfl) (fun _ _ _ h => h) (by assumption) (Or.inl ⟨by rfl, ?_⟩) ?_; rotate_left 1; · ((intro w hSw; (try dsimp only at hSw); go_split_ands; go_simp) <;> (try with_reducible rfl)))
  try simp only [Act.put, List.setIfInBounds_toArray, List.set_cons_zero, List.set_cons_succ]
  (refine wpZ_take (i := 3) (oi := ⟨some 8, .fieldAddr 113 (.tmp 7) 2, 0, _, _, none⟩) (v := ?_) rfl (by kernel_rfl) (fun _ _ _ h => h) (by assumption) (Or.inl ⟨by rfl, ?_⟩) ?_; rotate_left 1; · ((intro w hSw; (try dsimp only at hSw); go_split_ands; go_simp) <;> (try with_reducible rfl)))
  try simp only [Act.put, List.setIfInBounds_toArray, List.set_cons_zero, List.set_cons_succ]
  (refine wpZ_take (i := 4) (oi := ⟨some 9, .load 3 (.tmp 8), 3, _, _, none⟩) (v := ?_) rfl (by kernel_rfl) (fun _ _ _ h => h) (by assumption) (Or.inl ⟨by rfl, ?_⟩) ?_; rotate_left 1; · ((intro w hSw; (try dsimp only at hSw); go_split_ands; go_simp) <;> (try with_reducible rfl)))
  try simp only [Act.put, List.setIfInBounds_toArray, List.set_cons_zero, List.set_cons_succ]
  (refine wpZ_take (i := 5) (oi := ⟨some 10, .move (.tmp 2), 107, _, _, none⟩) (v := ?_) rfl (by kernel_rfl) (fun _ _ _ h => h) (by assumption) (Or.inl ⟨by rfl, ?_⟩) ?_; rotate_left 1; · ((intro w hSw; (try dsimp only at hSw); go_split_ands; go_simp) <;> (try with_reducible rfl)))
  try simp only [Act.put, List.setIfInBounds_toArray, List.set_cons_zero, List.set_cons_succ]
  (refine wpZ_take (i := 6) (oi := ⟨some 11, .nilCheck (.tmp 10), 0, _, _, none⟩) (v := ?_) rfl (by kernel_rfl) (fun _ _ _ h => h) (by assumption) (Or.inl ⟨by rfl, ?_⟩) ?_; rotate_left 1; · ((intro w hSw; (try dsimp only at hSw); go_split_ands; go_simp) <;> (try with_reducible rfl)))
  try simp only [Act.put, List.setIfInBounds_toArray, List.set_cons_zero, List.set_cons_succ]
  (refine wpZ_take (i := 7) (oi := ⟨some 12, .fieldAddr 113 (.tmp 11) 3, 0, _, _, none⟩) (v := ?_) rfl (by kernel_rfl) (fun _ _ _ h => h) (by assumption) (Or.inl ⟨by rfl, ?_⟩) ?_; rotate_left 1; · ((intro w hSw; (try dsimp only at hSw); go_split_ands; go_simp) <;> (try with_reducible rfl)))
  try simp only [Act.put, List.setIfInBounds_toArray, List.set_cons_zero, List.set_cons_succ]
  (refine wpZ_take (i := 8) (oi := ⟨some 13, .load 3 (.tmp 12), 3, _, _, none⟩) (v := ?_) rfl (by kernel_rfl) (fun _ _ _ h => h) (by assumption) (Or.inl ⟨by rfl, ?_⟩) ?_; rotate_left 1; · ((intro w hSw; (try dsimp only at hSw); go_split_ands; go_simp) <;> (try with_reducible rfl)))
  try simp only [Act.put, List.setIfInBounds_toArray, List.set_cons_zero, List.set_cons_succ]
  refine wpZ_one (i := 9) (oi := ⟨some 14, .call { callee := .value (.func 123), args := #[.tmp 5, .tmp 9, .tmp 13], argTypes := #[103, 3, 3] }, 4, _, _, none⟩) rfl (by kernel_rfl) (fun K hK => ?_)
  go_simp; refine (HLA.out _).mono ?_; rintro e w2 ⟨rfl, ht⟩; have HT := Lib.hid ht; clear ht; simp only [Option.isSome_none]; go_wp2_with fail
  refine hK.out _ _ (fun h => by simp at h) (fun _ => ?_)
  clear hK K
  try simp only [Act.put, List.setIfInBounds_toArray, List.set_cons_zero, List.set_cons_succ]
  refine wpZ_one (i := 10) (oi := ⟨some 15, .unOp .not 4 (.tmp 14), 4, _, _, none⟩) rfl (by kernel_rfl) (fun K hK => ?_)
  go_simp
  refine hK.out _ _ (fun h => by simp at h) (fun _ => ?_)
  clear hK K
  try simp only [Act.put, List.setIfInBounds_toArray, List.set_cons_zero, List.set_cons_succ]
  refine wpZ_done (by kernel_rfl) ?_ _
  go_wp2
  exact bodyPost_ret (v := .tuple #[]) (by simp [results, Tryz.results78, go_sem]) rfl ⟨rfl, HT.out⟩
set_option maxRecDepth 100000 in
set_option maxHeartbeats 2000000 in
theorem leaves_yes (h : Md w S L u P M s) {k fB fc : Nat} {f : Fr} {sv vv lv bv : Value} {raws : List (Value × Value)} (hf : Frm w L u P s k f fB fc sv vv raws lv bv) (hk : s.c.frs.length = k + 1) (hk2 : k ≤ 1000000)
    (hn2 : -4611686018427387904 < f.ar ∧ f.ar < 4611686018427387904) (hb : s.c.st.length ≤ 1000000000) (C1 : Cf) (hr : landsC s.c f.ar f.ht = some C1) (hfr : C1.frs = s.c.frs) :
    Calls Tryz.prog 78 #[.pointer (some ⟨P.mB, 0, none⟩)] w fun e w' => e = .returned (.tuple #[]) ∧ To w S L u P M w' { s with c := leftC k C1 } := by
  have HF := Lib.hid (frame_c h hf hk2)
  have HLA := Lib.hid (fun m => lands_c (h.still ((Still.refl w).drewN m)) f.ar f.ht hn2 hb _ hr)
  have f2 := hf.cell 2 _ rfl
  have f3 := hf.cell 3 _ rfl
  have HK := Lib.hid (And.intro hk (And.intro hk2 (And.intro hfr hf.top)))
  clear h hf hk hk2 hn2 hb hr hfr
  go_enter Tryz.func78, Tryz.ntmps78
  go_wp2_with fail
  refine HF.out.mono ?_
  rintro e w1 ⟨rfl, n1, rfl⟩
  go_wp2_with fail
  refine wp_region_z (fun w' => w'.cell? ⟨fB, k * 6 + 2, none⟩ = some (.int .i64 f.ar) ∧ w'.cell? ⟨fB, k * 6 + 3, none⟩ = some (.int .i64 f.ht)) (fun j => j == 9 || j == 10) (by kernel_rfl) ?_ (fun hHeld => ?_)
  · go_keep
  (refine wpZ_take (i := 0) (oi := ⟨some 5, .move (.tmp 0), 103, _, _, none⟩) (v := ?_) rfl (by kernel_rfl) (fun _ _ _ h => h) (by assumption) (Or.inl ⟨by rfl, ?_⟩) ?_; rotate_left 1; · ((intro w hSw; (try dsimp only at hSw); go_split_ands; go_simp) <;> (try with_reducible rfl)))
  try simp only [Act.put, List.setIfInBounds_toArray, List.set_cons_zero, List.set_cons_succ]
  (refine wpZ_take (i := 1) (oi := ⟨some 6, .move (.tmp 2), 107, _, _, none⟩) (v := ?_) rfl (by kernel_rfl) (fun _ _ _ h => h) (by assumption) (Or.inl ⟨by rfl, ?_⟩) ?_; rotate_left 1; · ((intro w hSw; (try dsimp only at hSw); go_split_ands; go_simp) <;> (try with_reducible rfl)))
  try simp only [Act.put, List.setIfInBounds_toArray, List.set_cons_zero, List.set_cons_succ]
  (refine wpZ_take (i := 2) (oi := ⟨some 7, .nilCheck (.tmp 6), 0, _, _, none⟩) (v := ?_) rfl (by kernel_rfl) (fun _ _ _ h => h) (by assumption) (Or.inl ⟨by rfl, ?_⟩) ?_; rotate_left 1; · ((intro w hSw; (try dsimp only at hSw); go_split_ands; go_simp) <;> (try with_reducible rfl)))
  try simp only [Act.put, List.setIfInBounds_toArray, List.set_cons_zero, List.set_cons_succ]
  (refine wpZ_take (i := 3) (oi := ⟨some 8, .fieldAddr 113 (.tmp 7) 2, 0, _, _, none⟩) (v := ?_) rfl (by kernel_rfl) (fun _ _ _ h => h) (by assumption) (Or.inl ⟨by rfl, ?_⟩) ?_; rotate_left 1; · ((intro w hSw; (try dsimp only at hSw); go_split_ands; go_simp) <;> (try with_reducible rfl)))
  try simp only [Act.put, List.setIfInBounds_toArray, List.set_cons_zero, List.set_cons_succ]
  (refine wpZ_take (i := 4) (oi := ⟨some 9, .load 3 (.tmp 8), 3, _, _, none⟩) (v := ?_) rfl (by kernel_rfl) (fun _ _ _ h => h) (by assumption) (Or.inl ⟨by rfl, ?_⟩) ?_; rotate_left 1; · ((intro w hSw; (try dsimp only at hSw); go_split_ands; go_simp) <;> (try with_reducible rfl)))
  try simp only [Act.put, List.setIfInBounds_toArray, List.set_cons_zero, List.set_cons_succ]
  (refine wpZ_take (i := 5) (oi := ⟨some 10, .move (.tmp 2), 107, _, _, none⟩) (v := ?_) rfl (by kernel_rfl) (fun _ _ _ h => h) (by assumption) (Or.inl ⟨by rfl, ?_⟩) ?_; rotate_left 1; · ((intro w hSw; (try dsimp only at hSw); go_split_ands; go_simp) <;> (try with_reducible rfl)))
  try simp only [Act.put, List.setIfInBounds_toArray, List.set_cons_zero, List.set_cons_succ]
  (refine wpZ_take (i := 6) (oi := ⟨some 11, .nilCheck (.tmp 10), 0, _, _, none⟩) (v := ?_) rfl (by kernel_rfl) (fun _ _ _ h => h) (by assumption) (Or.inl ⟨by rfl, ?_⟩) ?_; rotate_left 1; · ((intro w hSw; (try dsimp only at hSw); go_split_ands; go_simp) <;> (try with_reducible rfl)))
  try simp only [Act.put, List.setIfInBounds_toArray, List.set_cons_zero, List.set_cons_succ]
  (refine wpZ_take (i := 7) (oi := ⟨some 12, .fieldAddr 113 (.tmp 11) 3, 0, _, _, none⟩) (v := ?_) rfl (by kernel_rfl) (fun _ _ _ h => h) (by assumption) (Or.inl ⟨by rfl, ?_⟩) ?_; rotate_left 1; · ((intro w hSw; (try dsimp only at hSw); go_split_ands; go_simp) <;> (try with_reducible rfl)))
  try simp only [Act.put, List.setIfInBounds_toArray, List.set_cons_zero, List.set_cons_succ]
  (refine wpZ_take (i := 8) (oi := ⟨some 13, .load 3 (.tmp 12), 3, _, _, none⟩) (v := ?_) rfl (by kernel_rfl) (fun _ _ _ h => h) (by assumption) (Or.inl ⟨by rfl, ?_⟩) ?_; rotate_left 1; · ((intro w hSw; (try dsimp only at hSw); go_split_ands; go_simp) <;> (try with_reducible rfl)))
  try simp only [Act.put, List.setIfInBounds_toArray, List.set_cons_zero, List.set_cons_succ]
  refine wpZ_one (i := 9) (oi := ⟨some 14, .call { callee := .value (.func 123), args := #[.tmp 5, .tmp 9, .tmp 13], argTypes := #[103, 3, 3] }, 4, _, _, none⟩) rfl (by kernel_rfl) (fun K hK => ?_)
  go_simp; refine (HLA.out _).mono ?_; rintro e w2 ⟨rfl, ht⟩; have HT := Lib.hid ht; clear ht; simp only [Option.isSome_some]; go_wp2_with fail
  refine hK.out _ _ (fun h => by simp at h) (fun _ => ?_)
  clear hK K
  try simp only [Act.put, List.setIfInBounds_toArray, List.set_cons_zero, List.set_cons_succ]
  refine wpZ_one (i := 10) (oi := ⟨some 15, .unOp .not 4 (.tmp 14), 4, _, _, none⟩) rfl (by kernel_rfl) (fun K hK => ?_)
  go_simp
  refine hK.out _ _ (fun h => by simp at h) (fun _ => ?_)
  clear hK K
  try simp only [Act.put, List.setIfInBounds_toArray, List.set_cons_zero, List.set_cons_succ]
  refine wpZ_done (by kernel_rfl) ?_ _
  clear f2 f3 HLA HF hHeld
  obtain ⟨S2, L2, h2, k2, ro2, hS2⟩ := HT.out
  simp only [Option.getD_some] at h2
  obtain ⟨hk, hk2, hfr, htop⟩ := HK.out
  obtain ⟨fB2, fc2, sv2, vv2, raws2, lv2, bv2, hf2⟩ := h2.drew.frm k f (by simpa [hfr] using hk) (by simpa [hfr] using htop)
  have m0 := hf2.m0
  have c0 := hf2.c0
  have z0 := h2.drew.sep.frozen hf2.cfg P.co
  have hi1 : IntKind.i64.wrap (((k + 1 : Nat) : Int) - 1) = (k : Int) := by rw [IntWalk.i64_in _ (by omega)]; omega
  obtain ⟨i0, hi, _, hz1, _⟩ := info_parts infoFr
  have hcut := slice_to (P := Tryz.prog) (t := 56) Tryz.underlying56 hi (some ⟨fB2, 0, none⟩) (k + 1) fc2 k (by omega) hf2.le
  obtain ⟨S3, L3, h3, k3, ro3, hS3⟩ := frames_cut h2.drew hf2
  have ro23 : Ro S w _ := (ro2.trans (⟨⟨Nat.le_refl _, rfl, rfl⟩, fun _ _ => rfl⟩ : Ro S2 w2 w2.drew) hS2).trans ro3 hS2
  obtain ⟨fv4, vv4, A4, N4, cc4, hs4⟩ := h3.stk
  have hs4d := cfg_done h3.drew hs4.cfg hs4.st
  have hkk : (C1.frs.take k).length = k := by rw [List.length_take, hfr, hk]; omega
  generalize hN : k + 1 = N at c0 hi1 hcut
  have HN := Lib.hid hN
  have q0 := hs4.c0
  have qm := hs4.m0
  have q1 := hs4.c1
  have q2 := hs4.c2
  have q3 := hs4.c3
  have q4 := hs4.c4
  have y0 := hs4.z P.co
  have y1 := hs4.z (P.co + 1)
  have y2 := hs4.z (P.co + 2)
  have y3 := hs4.z (P.co + 3)
  have y4 := hs4.z (P.co + 4)
  have hfv4 : fv4 = .slice (some ⟨fB2, 0, none⟩) k fc2 := by
    have e1 := World.cell?_setCell_same' w2.drew ⟨P.cB, P.co, none⟩ (.slice (some ⟨fB2, 0, none⟩) k fc2) (by rw [c0]; rfl)
    rw [q0] at e1
    injection e1
  subst hfv4
  have KC := Lib.hid (And.intro (k2.trans k3) (And.intro ro23 (And.intro (fun b hb => hS3 b (hS2 b hb)) (And.intro h3 hs4d))))
  clear h2 k2 ro2 hS2 h3 k3 ro3 hS3 ro23 hs4 hs4d hf2 hN hk hk2 hfr htop hi hz1 HT HK hkk
  go_wp2_with fail
  refine wp_region_z (fun w' => w'.cell? ⟨P.mB, 0, none⟩ = some (.pointer (some ⟨P.cB, P.co, none⟩)) ∧ w'.cell? ⟨P.cB, P.co, none⟩ = some (.slice (some ⟨fB2, 0, none⟩) N fc2)) (fun j => j == 21 || j == 22 || j == 23) (by kernel_rfl) ?_ (fun hHeld => ?_)
  · exact ⟨m0, c0⟩
  (refine wpZ_take (i := 0) (oi := ⟨some 16, .move (.tmp 0), 103, _, _, none⟩) (v := ?_) rfl (by kernel_rfl) (fun _ _ _ h => h) (by assumption) (Or.inl ⟨by rfl, ?_⟩) ?_; rotate_left 1; · ((intro w hSw; (try dsimp only at hSw); go_split_ands; go_simp) <;> (try with_reducible rfl)))
  try simp only [Act.put, List.setIfInBounds_toArray, List.set_cons_zero, List.set_cons_succ]
  (refine wpZ_take (i := 1) (oi := ⟨some 17, .nilCheck (.tmp 16), 0, _, _, none⟩) (v := ?_) rfl (by kernel_rfl) (fun _ _ _ h => h) (by assumption) (Or.inl ⟨by rfl, ?_⟩) ?_; rotate_left 1; · ((intro w hSw; (try dsimp only at hSw); go_split_ands; go_simp) <;> (try with_reducible rfl)))
  try simp only [Act.put, List.setIfInBounds_toArray, List.set_cons_zero, List.set_cons_succ]
  (refine wpZ_take (i := 2) (oi := ⟨some 18, .fieldAddr 105 (.tmp 17) 0, 0, _, _, none⟩) (v := ?_) rfl (by kernel_rfl) (fun _ _ _ h => h) (by assumption) (Or.inl ⟨by rfl, ?_⟩) ?_; rotate_left 1; · ((intro w hSw; (try dsimp only at hSw); go_split_ands; go_simp) <;> (try with_reducible rfl)))
  try simp only [Act.put, List.setIfInBounds_toArray, List.set_cons_zero, List.set_cons_succ]
  (refine wpZ_take (i := 3) (oi := ⟨some 19, .load 62 (.tmp 18), 62, _, _, none⟩) (v := ?_) rfl (by kernel_rfl) (fun _ _ _ h => h) (by assumption) (Or.inl ⟨by rfl, ?_⟩) ?_; rotate_left 1; · ((intro w hSw; (try dsimp only at hSw); go_split_ands; go_simp) <;> (try with_reducible rfl)))
  try simp only [Act.put, List.setIfInBounds_toArray, List.set_cons_zero, List.set_cons_succ]
  (refine wpZ_take (i := 4) (oi := ⟨some 20, .move (.tmp 0), 103, _, _, none⟩) (v := ?_) rfl (by kernel_rfl) (fun _ _ _ h => h) (by assumption) (Or.inl ⟨by rfl, ?_⟩) ?_; rotate_left 1; · ((intro w hSw; (try dsimp only at hSw); go_split_ands; go_simp) <;> (try with_reducible rfl)))
  try simp only [Act.put, List.setIfInBounds_toArray, List.set_cons_zero, List.set_cons_succ]
  (refine wpZ_take (i := 5) (oi := ⟨some 21, .nilCheck (.tmp 20), 0, _, _, none⟩) (v := ?_) rfl (by kernel_rfl) (fun _ _ _ h => h) (by assumption) (Or.inl ⟨by rfl, ?_⟩) ?_; rotate_left 1; · ((intro w hSw; (try dsimp only at hSw); go_split_ands; go_simp) <;> (try with_reducible rfl)))
  try simp only [Act.put, List.setIfInBounds_toArray, List.set_cons_zero, List.set_cons_succ]
  (refine wpZ_take (i := 6) (oi := ⟨some 22, .fieldAddr 105 (.tmp 21) 0, 0, _, _, none⟩) (v := ?_) rfl (by kernel_rfl) (fun _ _ _ h => h) (by assumption) (Or.inl ⟨by rfl, ?_⟩) ?_; rotate_left 1; · ((intro w hSw; (try dsimp only at hSw); go_split_ands; go_simp) <;> (try with_reducible rfl)))
  try simp only [Act.put, List.setIfInBounds_toArray, List.set_cons_zero, List.set_cons_succ]
  (refine wpZ_take (i := 7) (oi := ⟨some 23, .load 62 (.tmp 22), 62, _, _, none⟩) (v := ?_) rfl (by kernel_rfl) (fun _ _ _ h => h) (by assumption) (Or.inl ⟨by rfl, ?_⟩) ?_; rotate_left 1; · ((intro w hSw; (try dsimp only at hSw); go_split_ands; go_simp) <;> (try with_reducible rfl)))
  try simp only [Act.put, List.setIfInBounds_toArray, List.set_cons_zero, List.set_cons_succ]
  (refine wpZ_take (i := 8) (oi := ⟨some 24, .nilCheck (.tmp 23), 0, _, _, none⟩) (v := ?_) rfl (by kernel_rfl) (fun _ _ _ h => h) (by assumption) (Or.inl ⟨by rfl, ?_⟩) ?_; rotate_left 1; · ((intro w hSw; (try dsimp only at hSw); go_split_ands; go_simp) <;> (try with_reducible rfl)))
  try simp only [Act.put, List.setIfInBounds_toArray, List.set_cons_zero, List.set_cons_succ]
  (refine wpZ_take (i := 9) (oi := ⟨some 25, .fieldAddr 59 (.tmp 24) 0, 0, _, _, none⟩) (v := ?_) rfl (by kernel_rfl) (fun _ _ _ h => h) (by assumption) (Or.inl ⟨by rfl, ?_⟩) ?_; rotate_left 1; · ((intro w hSw; (try dsimp only at hSw); go_split_ands; go_simp) <;> (try with_reducible rfl)))
  try simp only [Act.put, List.setIfInBounds_toArray, List.set_cons_zero, List.set_cons_succ]
  (refine wpZ_take (i := 10) (oi := ⟨some 26, .load 56 (.tmp 25), 56, _, _, none⟩) (v := ?_) rfl (by kernel_rfl) (fun _ _ _ h => h) (by assumption) (Or.inl ⟨by rfl, ?_⟩) ?_; rotate_left 1; · ((intro w hSw; (try dsimp only at hSw); go_split_ands; go_simp) <;> (try with_reducible rfl)))
  try simp only [Act.put, List.setIfInBounds_toArray, List.set_cons_zero, List.set_cons_succ]
  (refine wpZ_take (i := 11) (oi := ⟨some 27, .move (.tmp 0), 103, _, _, none⟩) (v := ?_) rfl (by kernel_rfl) (fun _ _ _ h => h) (by assumption) (Or.inl ⟨by rfl, ?_⟩) ?_; rotate_left 1; · ((intro w hSw; (try dsimp only at hSw); go_split_ands; go_simp) <;> (try with_reducible rfl)))
  try simp only [Act.put, List.setIfInBounds_toArray, List.set_cons_zero, List.set_cons_succ]
  (refine wpZ_take (i := 12) (oi := ⟨some 28, .nilCheck (.tmp 27), 0, _, _, none⟩) (v := ?_) rfl (by kernel_rfl) (fun _ _ _ h => h) (by assumption) (Or.inl ⟨by rfl, ?_⟩) ?_; rotate_left 1; · ((intro w hSw; (try dsimp only at hSw); go_split_ands; go_simp) <;> (try with_reducible rfl)))
  try simp only [Act.put, List.setIfInBounds_toArray, List.set_cons_zero, List.set_cons_succ]
  (refine wpZ_take (i := 13) (oi := ⟨some 29, .fieldAddr 105 (.tmp 28) 0, 0, _, _, none⟩) (v := ?_) rfl (by kernel_rfl) (fun _ _ _ h => h) (by assumption) (Or.inl ⟨by rfl, ?_⟩) ?_; rotate_left 1; · ((intro w hSw; (try dsimp only at hSw); go_split_ands; go_simp) <;> (try with_reducible rfl)))
  try simp only [Act.put, List.setIfInBounds_toArray, List.set_cons_zero, List.set_cons_succ]
  (refine wpZ_take (i := 14) (oi := ⟨some 30, .load 62 (.tmp 29), 62, _, _, none⟩) (v := ?_) rfl (by kernel_rfl) (fun _ _ _ h => h) (by assumption) (Or.inl ⟨by rfl, ?_⟩) ?_; rotate_left 1; · ((intro w hSw; (try dsimp only at hSw); go_split_ands; go_simp) <;> (try with_reducible rfl)))
  try simp only [Act.put, List.setIfInBounds_toArray, List.set_cons_zero, List.set_cons_succ]
  (refine wpZ_take (i := 15) (oi := ⟨some 31, .nilCheck (.tmp 30), 0, _, _, none⟩) (v := ?_) rfl (by kernel_rfl) (fun _ _ _ h => h) (by assumption) (Or.inl ⟨by rfl, ?_⟩) ?_; rotate_left 1; · ((intro w hSw; (try dsimp only at hSw); go_split_ands; go_simp) <;> (try with_reducible rfl)))
  try simp only [Act.put, List.setIfInBounds_toArray, List.set_cons_zero, List.set_cons_succ]
  (refine wpZ_take (i := 16) (oi := ⟨some 32, .fieldAddr 59 (.tmp 31) 0, 0, _, _, none⟩) (v := ?_) rfl (by kernel_rfl) (fun _ _ _ h => h) (by assumption) (Or.inl ⟨by rfl, ?_⟩) ?_; rotate_left 1; · ((intro w hSw; (try dsimp only at hSw); go_split_ands; go_simp) <;> (try with_reducible rfl)))
  try simp only [Act.put, List.setIfInBounds_toArray, List.set_cons_zero, List.set_cons_succ]
  (refine wpZ_take (i := 17) (oi := ⟨some 33, .load 56 (.tmp 32), 56, _, _, none⟩) (v := ?_) rfl (by kernel_rfl) (fun _ _ _ h => h) (by assumption) (Or.inl ⟨by rfl, ?_⟩) ?_; rotate_left 1; · ((intro w hSw; (try dsimp only at hSw); go_split_ands; go_simp) <;> (try with_reducible rfl)))
  try simp only [Act.put, List.setIfInBounds_toArray, List.set_cons_zero, List.set_cons_succ]
  (refine wpZ_take (i := 18) (oi := ⟨some 34, .call { callee := .builtin .len, args := #[.tmp 33], argTypes := #[56] }, 3, _, _, none⟩) (v := ?_) rfl (by kernel_rfl) (fun _ _ _ h => h) (by assumption) (Or.inl ⟨by rfl, ?_⟩) ?_; rotate_left 1; · ((intro w hSw; (try dsimp only at hSw); go_split_ands; go_simp) <;> (try with_reducible rfl)))
  try simp only [Act.put, List.setIfInBounds_toArray, List.set_cons_zero, List.set_cons_succ]
  (refine wpZ_take (i := 19) (oi := ⟨some 35, .binOp .sub 3 (.tmp 34) (.const (.int .i64 1)) 3, 3, _, _, none⟩) (v := ?_) rfl (by kernel_rfl) (fun _ _ _ h => h) (by assumption) (Or.inl ⟨by rfl, ?_⟩) ?_; rotate_left 1; · ((intro w hSw; (try dsimp only at hSw); go_split_ands; go_simp) <;> (try with_reducible rfl)))
  try simp only [Act.put, List.setIfInBounds_toArray, List.set_cons_zero, List.set_cons_succ]
  (refine wpZ_take (i := 20) (oi := ⟨some 36, .slice 56 (.tmp 26) none (some (.tmp 35)) none, 56, _, _, none⟩) (v := ?_) rfl (by kernel_rfl) (fun _ _ _ h => h) (by assumption) (Or.inl ⟨by rfl, ?_⟩) ?_; rotate_left 1; · ((intro w hSw; (try dsimp only at hSw); go_split_ands; go_simp) <;> (try with_reducible rfl)))
  try simp only [Act.put, List.setIfInBounds_toArray, List.set_cons_zero, List.set_cons_succ]
  refine wpZ_one (i := 21) (oi := ⟨some 37, .nilCheck (.tmp 19), 0, _, _, none⟩) rfl (by kernel_rfl) (fun K hK => ?_)
  go_simp
  refine hK.out _ _ (fun h => by simp at h) (fun _ => ?_)
  clear hK K
  try simp only [Act.put, List.setIfInBounds_toArray, List.set_cons_zero, List.set_cons_succ]
  refine wpZ_one (i := 22) (oi := ⟨some 38, .fieldAddr 59 (.tmp 37) 0, 0, _, _, none⟩) rfl (by kernel_rfl) (fun K hK => ?_)
  go_simp
  refine hK.out _ _ (fun h => by simp at h) (fun _ => ?_)
  clear hK K
  try simp only [Act.put, List.setIfInBounds_toArray, List.set_cons_zero, List.set_cons_succ]
  refine wpZ_one (i := 23) (oi := ⟨none, .store 56 (.tmp 38) (.tmp 36), 0, _, _, none⟩) rfl (by kernel_rfl) (fun K hK => ?_)
  go_simp
  refine hK.out _ _ (fun h => by simp at h) (fun _ => ?_)
  clear hK K
  try simp only [Act.put, List.setIfInBounds_toArray, List.set_cons_zero, List.set_cons_succ]
  refine wpZ_done (by kernel_rfl) ?_ _
  clear m0 z0 c0 hcut
  have hw : w2.drew.setCell ⟨P.cB, P.co, none⟩ (.slice (some ⟨fB2, 0, none⟩) k fc2) = (w2.setCell ⟨P.cB, P.co, none⟩ (.slice (some ⟨fB2, 0, none⟩) k fc2)).drew := rfl
  rw [hw] at q0 qm q1 q2 q3 q4 y0 y1 y2 y3 y4 KC
  clear hw
  generalize (w2.setCell ⟨P.cB, P.co, none⟩ (.slice (some ⟨fB2, 0, none⟩) k fc2)).drew = w3 at *
  obtain ⟨kk, ro23, hS23, h3, hd4⟩ := KC.out
  by_cases hk0 : k = 0
  · subst hk0
    have FIN := Lib.hid (To.trans kk ro23 hS23 (To.trans (Keep.refl _ _) (⟨⟨Nat.le_refl _, rfl, rfl⟩, fun _ _ => rfl⟩ : Ro S3 w3 w3.drew) (fun _ h => h) hd4))
    clear kk ro23 hS23 h3 hd4 KC
    go_wp2_with fail
    refine wp_region_z (fun w' => w'.cell? ⟨P.mB, 0, none⟩ = some (.pointer (some ⟨P.cB, P.co, none⟩)) ∧ w'.cell? ⟨P.cB, P.co + 1, none⟩ = some (.slice A4 N4 cc4)) (fun j => j == 12 || j == 13) (by kernel_rfl) ?_ (fun hHeld => ?_)
    · exact ⟨qm, q1⟩
    (refine wpZ_take (i := 0) (oi := ⟨some 48, .move (.tmp 0), 103, _, _, none⟩) (v := ?_) rfl (by kernel_rfl) (fun _ _ _ h => h) (by assumption) (Or.inl ⟨by rfl, ?_⟩) ?_; rotate_left 1; · ((intro w hSw; (try dsimp only at hSw); go_split_ands; go_simp) <;> (try with_reducible rfl)))
    try simp only [Act.put, List.setIfInBounds_toArray, List.set_cons_zero, List.set_cons_succ]
    (refine wpZ_take (i := 1) (oi := ⟨some 49, .nilCheck (.tmp 48), 0, _, _, none⟩) (v := ?_) rfl (by kernel_rfl) (fun _ _ _ h => h) (by assumption) (Or.inl ⟨by rfl, ?_⟩) ?_; rotate_left 1; · ((intro w hSw; (try dsimp only at hSw); go_split_ands; go_simp) <;> (try with_reducible rfl)))
    try simp only [Act.put, List.setIfInBounds_toArray, List.set_cons_zero, List.set_cons_succ]
    (refine wpZ_take (i := 2) (oi := ⟨some 50, .fieldAddr 105 (.tmp 49) 0, 0, _, _, none⟩) (v := ?_) rfl (by kernel_rfl) (fun _ _ _ h => h) (by assumption) (Or.inl ⟨by rfl, ?_⟩) ?_; rotate_left 1; · ((intro w hSw; (try dsimp only at hSw); go_split_ands; go_simp) <;> (try with_reducible rfl)))
    try simp only [Act.put, List.setIfInBounds_toArray, List.set_cons_zero, List.set_cons_succ]
    (refine wpZ_take (i := 3) (oi := ⟨some 51, .load 62 (.tmp 50), 62, _, _, none⟩) (v := ?_) rfl (by kernel_rfl) (fun _ _ _ h => h) (by assumption) (Or.inl ⟨by rfl, ?_⟩) ?_; rotate_left 1; · ((intro w hSw; (try dsimp only at hSw); go_split_ands; go_simp) <;> (try with_reducible rfl)))
    try simp only [Act.put, List.setIfInBounds_toArray, List.set_cons_zero, List.set_cons_succ]
    (refine wpZ_take (i := 4) (oi := ⟨some 52, .move (.tmp 0), 103, _, _, none⟩) (v := ?_) rfl (by kernel_rfl) (fun _ _ _ h => h) (by assumption) (Or.inl ⟨by rfl, ?_⟩) ?_; rotate_left 1; · ((intro w hSw; (try dsimp only at hSw); go_split_ands; go_simp) <;> (try with_reducible rfl)))
    try simp only [Act.put, List.setIfInBounds_toArray, List.set_cons_zero, List.set_cons_succ]
    (refine wpZ_take (i := 5) (oi := ⟨some 53, .nilCheck (.tmp 52), 0, _, _, none⟩) (v := ?_) rfl (by kernel_rfl) (fun _ _ _ h => h) (by assumption) (Or.inl ⟨by rfl, ?_⟩) ?_; rotate_left 1; · ((intro w hSw; (try dsimp only at hSw); go_split_ands; go_simp) <;> (try with_reducible rfl)))
    try simp only [Act.put, List.setIfInBounds_toArray, List.set_cons_zero, List.set_cons_succ]
    (refine wpZ_take (i := 6) (oi := ⟨some 54, .fieldAddr 105 (.tmp 53) 0, 0, _, _, none⟩) (v := ?_) rfl (by kernel_rfl) (fun _ _ _ h => h) (by assumption) (Or.inl ⟨by rfl, ?_⟩) ?_; rotate_left 1; · ((intro w hSw; (try dsimp only at hSw); go_split_ands; go_simp) <;> (try with_reducible rfl)))
    try simp only [Act.put, List.setIfInBounds_toArray, List.set_cons_zero, List.set_cons_succ]
    (refine wpZ_take (i := 7) (oi := ⟨some 55, .load 62 (.tmp 54), 62, _, _, none⟩) (v := ?_) rfl (by kernel_rfl) (fun _ _ _ h => h) (by assumption) (Or.inl ⟨by rfl, ?_⟩) ?_; rotate_left 1; · ((intro w hSw; (try dsimp only at hSw); go_split_ands; go_simp) <;> (try with_reducible rfl)))
    try simp only [Act.put, List.setIfInBounds_toArray, List.set_cons_zero, List.set_cons_succ]
    (refine wpZ_take (i := 8) (oi := ⟨some 56, .nilCheck (.tmp 55), 0, _, _, none⟩) (v := ?_) rfl (by kernel_rfl) (fun _ _ _ h => h) (by assumption) (Or.inl ⟨by rfl, ?_⟩) ?_; rotate_left 1; · ((intro w hSw; (try dsimp only at hSw); go_split_ands; go_simp) <;> (try with_reducible rfl)))
    try simp only [Act.put, List.setIfInBounds_toArray, List.set_cons_zero, List.set_cons_succ]
    (refine wpZ_take (i := 9) (oi := ⟨some 57, .fieldAddr 59 (.tmp 56) 1, 0, _, _, none⟩) (v := ?_) rfl (by kernel_rfl) (fun _ _ _ h => h) (by assumption) (Or.inl ⟨by rfl, ?_⟩) ?_; rotate_left 1; · ((intro w hSw; (try dsimp only at hSw); go_split_ands; go_simp) <;> (try with_reducible rfl)))
    try simp only [Act.put, List.setIfInBounds_toArray, List.set_cons_zero, List.set_cons_succ]
    (refine wpZ_take (i := 10) (oi := ⟨some 58, .load 57 (.tmp 57), 57, _, _, none⟩) (v := ?_) rfl (by kernel_rfl) (fun _ _ _ h => h) (by assumption) (Or.inl ⟨by rfl, ?_⟩) ?_; rotate_left 1; · ((intro w hSw; (try dsimp only at hSw); go_split_ands; go_simp) <;> (try with_reducible rfl)))
    try simp only [Act.put, List.setIfInBounds_toArray, List.set_cons_zero, List.set_cons_succ]
    (refine wpZ_take (i := 11) (oi := ⟨some 59, .build 59 #[(2, .const (.bool true)), (4, .tmp 58)], 59, _, _, none⟩) (v := ?_) rfl (by kernel_rfl) (fun _ _ _ h => h) (by assumption) (Or.inl ⟨by rfl, ?_⟩) ?_; rotate_left 1; · ((intro w hSw; (try dsimp only at hSw); go_split_ands; go_simp) <;> (try with_reducible rfl)))
    try simp only [Act.put, List.setIfInBounds_toArray, List.set_cons_zero, List.set_cons_succ]
    refine wpZ_one (i := 12) (oi := ⟨some 60, .nilCheck (.tmp 51), 0, _, _, none⟩) rfl (by kernel_rfl) (fun K hK => ?_)
    go_simp
    refine hK.out _ _ (fun h => by simp at h) (fun _ => ?_)
    clear hK K
    try simp only [Act.put, List.setIfInBounds_toArray, List.set_cons_zero, List.set_cons_succ]
    refine wpZ_one (i := 13) (oi := ⟨none, .store 59 (.tmp 60) (.tmp 59), 0, _, _, none⟩) rfl (by kernel_rfl) (fun K hK => ?_)
    go_simp
    refine hK.out _ _ (fun h => by simp at h) (fun _ => ?_)
    clear hK K
    try simp only [Act.put, List.setIfInBounds_toArray, List.set_cons_zero, List.set_cons_succ]
    refine wpZ_done (by kernel_rfl) ?_ _
    go_wp2
    go_end0
    exact ⟨rfl, FIN.out⟩
  · have d0 : ((k : Int) == 0) = false := beq_eq_false_iff_ne.2 (by omega)
    have FIN := Lib.hid (To.trans kk ro23 hS23 (To.refl h3))
    have HK0 := Lib.hid hk0
    clear kk ro23 hS23 h3 hd4 KC hk0
    go_wp2
    go_end0
    refine ⟨rfl, ?_⟩
    unfold leftC
    rw [if_neg HK0.out]
    exact FIN.out
/-- leaves, told by leaveC. -/
theorem leaves_c (h : Md w S L u P M s) {k fB fc : Nat} {f : Fr} {sv vv lv bv : Value} {raws : List (Value × Value)} (hf : Frm w L u P s k f fB fc sv vv raws lv bv) (hk : s.c.frs.length = k + 1) (hk2 : k ≤ 1000000)
    (hn2 : -4611686018427387904 < f.ar ∧ f.ar < 4611686018427387904) (hb : s.c.st.length ≤ 1000000000) :
    Calls Tryz.prog 78 #[.pointer (some ⟨P.mB, 0, none⟩)] w fun e w' => e = .returned (.tuple #[]) ∧ To w S L u P M w' { s with c := leaveC s.c f } := by
  cases hr : landsC s.c f.ar f.ht with
  | none =>
    have : leaveC s.c f = endsC 17 := by unfold leaveC; rw [hr]
    rw [this]
    exact leaves_no h hf hk2 hn2 hb hr
  | some C1 =>
    have hfr : C1.frs = s.c.frs := by
      unfold landsC popsC at hr
      split at hr
      · cases hr
      · rename_i l C' hp
        split at hp
        · cases hp
        · injection hp with hp
          injection hp with _ hp
          subst hp
          split at hr
          · cases hr
          · injection hr with hr
            rw [← hr]
    have : leaveC s.c f = leftC k C1 := by
      unfold leaveC leftC
      rw [hr]
      have hl : C1.frs.length = k + 1 := by rw [hfr, hk]
      simp only [hl, Nat.add_sub_cancel]
      by_cases h0 : k = 0
      · subst h0; simp
      · rw [if_neg h0]
        cases ht : C1.frs.take k with
        | nil =>
          have := congrArg List.length ht
          rw [List.length_take, hl, List.length_nil] at this
          omega
        | cons x r => rfl
    rw [this]
    exact leaves_yes h hf hk hk2 hn2 hb C1 hr hfr
end Go.Proofs.YtmnebeikafigjaaGreatDoor
/- step's machine: frames written; closes, skips, calls. -/
set_option linter.unusedVariables false
namespace Go.Proofs.YtmnebeikafigjaaGreatDoor
open Go.RowKit Go.Sep Go.St
variable {w : World} {S : Nat → Prop} {L : Key → Option Ck} {u : Nat} {P : Ptrs} {M : Mo} {s : Ms}
theorem Row.set {w : World} {e sz b n c : Nat} {xs : List Value} (h : Row w e sz (.slice (some ⟨b, 0, none⟩) n c) xs) (i : Nat) (hi : i < xs.length) (v : Value) :
    Row (w.setCell ⟨b, i, none⟩ v) e sz (.slice (some ⟨b, 0, none⟩) n c) (xs.set i v) ∧ w.grownBy (w.setCell ⟨b, i, none⟩ v) (rowBlock (.slice (some ⟨b, 0, none⟩) n c)) := by
  obtain ⟨A, n', c', e1, h1, hA, h2, h3, h4⟩ := h
  cases e1
  have hc0 : 0 < c := by
    rcases Nat.eq_zero_or_pos c with h0 | h0
    · subst h0
      obtain rfl : n = 0 := by omega
      simp at h1
      subst h1
      simp at hi
    · exact h0
  obtain ⟨g, cur, e2, hg, hcs, ht⟩ := h4 hc0
  cases e2
  have hh := setCell_heap i v hg (b := b)
  have hlen : xs.length ≤ cur.size := by
    have := congrArg List.length ht
    rw [List.length_take, Array.length_toList] at this
    omega
  refine ⟨⟨_, n, c, rfl, by rw [List.length_set]; exact h1, (fun h => nomatch h), h2, h3, fun _ => ⟨b, _, rfl, by rw [hh, if_pos rfl], by rw [Array.size_setIfInBounds]; exact hcs, ?_⟩⟩, ⟨rfl, rfl, rfl, by simp [World.setCell], fun k hk hne => ?_⟩⟩
  · rw [Array.toList_setIfInBounds, List.take_set, ht]
  · rw [hh, if_neg]
    rintro rfl
    exact hne (by simp [rowBlock]; omega)
theorem zip_set {α β : Type} : ∀ (l : List α) (r : List β) (k : Nat) (x : α) (y : β), (l.zip r).set k (x, y) = (l.set k x).zip (r.set k y)
  | [], r, k, x, y => by simp
  | a :: l, [], k, x, y => by cases k <;> simp
  | a :: l, b :: r, 0, x, y => by simp
  | a :: l, b :: r, k + 1, x, y => by simp [zip_set l r k x y]
/-- The last frame is another one. -/
theorem frame_put {w1 : World} {L1 : Key → Option Ck} {k fB fc : Nat} {f : Fr} {sv vv lv bv : Value} {raws : List (Value × Value)} (h : Md w S L u P M s) (hf : Frm w L u P s k f fB fc sv vv raws lv bv) (hk : s.c.frs.length = k + 1)
    (hs : Sep w1 S L1) (ro : Ro S w w1) (hK : ∀ q, q ≠ .lab u k → L1 q = L q) (f' : Fr) (bv' : Value) (hl : L1 (.lab u k) = some (.rw 146 3 bv' (labC f'.lab))) (hloc : f'.loc = f.loc)
    (j : Nat) (v : Value) (hj : j < 6) (he : frC f' lv bv' = (frC f lv bv).set j v) :
    To w S L u P M (w1.setCell ⟨fB, k * 6 + j, none⟩ v) { s with c := setTop s.c f' } := by
  have hfr : L1 (.fr u) = some (.rw 113 6 (.slice (some ⟨fB, 0, none⟩) (k + 1) fc) ((s.c.frs.zip raws).flatMap frG)) := (hK _ (by simp)).trans hf.fr
  have hlen : ((s.c.frs.zip raws).flatMap frG).length = (k + 1) * 6 := by rw [flat_len frG 6 frG_len, List.length_zip, hf.len, Nat.min_self, hk]
  have hz : (s.c.frs.zip raws)[k]? = some (f, lv, bv) := (List.getElem?_zip_eq_some (z := (f, lv, bv))).2 ⟨hf.top, hf.raw⟩
  obtain ⟨r1, g1⟩ := Row.set (hs.holds _ _ hfr) (k * 6 + j) (by rw [hlen]; omega) v
  have hset : ((s.c.frs.zip raws).flatMap frG).set (k * 6 + j) v = (((setTop s.c f').frs).zip (raws.set k (lv, bv'))).flatMap frG := by
    rw [flat_set frG 6 frG_len _ k j (f, lv, bv) (f', lv, bv') v hj hz he]
    congr 1
    simp only [setTop, hk, Nat.add_sub_cancel]
    exact zip_set _ _ _ _ _
  rw [hset] at r1
  obtain ⟨s2, ro2⟩ := hs.grow hfr r1 g1 (.inl rfl)
  refine ⟨S, _, h.recfg s2 (ro.trans' ro2) (fun _ h => h) ⟨.slice (some ⟨fB, 0, none⟩) (k + 1) fc, sv, vv, ?_, ⟨raws.set k (lv, bv'), ?_, ?_, fun k' f1 r1 x y => ?_⟩, ?_, ?_⟩ (cf_upd (fun q hq => hK q (by rintro rfl; cases hq)) rfl), ?_, ro.trans' ro2, fun _ h => h⟩
  · rw [upd_other _ _ (by simp), hK _ (by simp)]; exact hf.cfg
  · rw [List.length_set, hf.len]; simp [setTop]
  · rw [upd_same]; rfl
  · rw [upd_other _ _ (by simp), upd_other _ _ (by simp)]
    have x : (s.c.frs.set (s.c.frs.length - 1) f')[k']? = some f1 := x
    rw [hk, Nat.add_sub_cancel, List.getElem?_set] at x
    rw [List.getElem?_set] at y
    by_cases e : k = k'
    · subst e
      rw [if_pos rfl, if_pos (by omega)] at x
      rw [if_pos rfl, if_pos (by rw [hf.len]; omega)] at y
      cases x
      cases y
      exact ⟨by rw [hK _ (by simp)]; show _ = some (Ck.rw 26 1 lv (ints .u64 f'.loc)); rw [hloc]; exact hf.loc, hl⟩
    · rw [if_neg e] at x y
      obtain ⟨a, b⟩ := hf.all k' f1 r1 x y
      exact ⟨(hK _ (by simp)).trans a, (hK _ (by simp; exact fun h => e h.symm)).trans b⟩
  · rw [upd_other _ _ (by simp), hK _ (by simp)]; exact hf.st
  · rw [upd_other _ _ (by simp), hK _ (by simp)]; exact hf.va
  · refine Keep.upd (fun q hq => hK q (by rintro rfl; exact hq rfl)) rfl
/-- The same, and how the frames lie then. -/
def ToF (w : World) (S : Nat → Prop) (L : Key → Option Ck) (u : Nat) (P : Ptrs) (M : Mo) (w' : World) (s : Ms) (k : Nat) (f : Fr) (fB fc : Nat) (sv vv lv bv : Value) : Prop :=
  ∃ S' L' raws, Md w' S' L' u P M s ∧ Keep u L L' ∧ Ro S w w' ∧ (∀ b, S b → S' b) ∧ Frm w' L' u P s k f fB fc sv vv raws lv bv
theorem ToF.to {w' : World} {k fB fc : Nat} {f : Fr} {sv vv lv bv : Value} (h : ToF w S L u P M w' s k f fB fc sv vv lv bv) : To w S L u P M w' s := by
  obtain ⟨S', L', raws, a, b, c, d, _⟩ := h
  exact ⟨S', L', a, b, c, d⟩
theorem frame_putF {w1 : World} {L1 : Key → Option Ck} {k fB fc : Nat} {f : Fr} {sv vv lv bv : Value} {raws : List (Value × Value)} (h : Md w S L u P M s) (hf : Frm w L u P s k f fB fc sv vv raws lv bv) (hk : s.c.frs.length = k + 1)
    (hs : Sep w1 S L1) (ro : Ro S w w1) (hK : ∀ q, q ≠ .lab u k → L1 q = L q) (f' : Fr) (bv' : Value) (hl : L1 (.lab u k) = some (.rw 146 3 bv' (labC f'.lab))) (hloc : f'.loc = f.loc)
    (j : Nat) (v : Value) (hj : j < 6) (he : frC f' lv bv' = (frC f lv bv).set j v) :
    ToF w S L u P M (w1.setCell ⟨fB, k * 6 + j, none⟩ v) { s with c := setTop s.c f' } k f' fB fc sv vv lv bv' := by
  have hfr : L1 (.fr u) = some (.rw 113 6 (.slice (some ⟨fB, 0, none⟩) (k + 1) fc) ((s.c.frs.zip raws).flatMap frG)) := (hK _ (by simp)).trans hf.fr
  have hlen : ((s.c.frs.zip raws).flatMap frG).length = (k + 1) * 6 := by rw [flat_len frG 6 frG_len, List.length_zip, hf.len, Nat.min_self, hk]
  have hz : (s.c.frs.zip raws)[k]? = some (f, lv, bv) := (List.getElem?_zip_eq_some (z := (f, lv, bv))).2 ⟨hf.top, hf.raw⟩
  obtain ⟨r1, g1⟩ := Row.set (hs.holds _ _ hfr) (k * 6 + j) (by rw [hlen]; omega) v
  have hset : ((s.c.frs.zip raws).flatMap frG).set (k * 6 + j) v = (((setTop s.c f').frs).zip (raws.set k (lv, bv'))).flatMap frG := by
    rw [flat_set frG 6 frG_len _ k j (f, lv, bv) (f', lv, bv') v hj hz he]
    congr 1
    simp only [setTop, hk, Nat.add_sub_cancel]
    exact zip_set _ _ _ _ _
  rw [hset] at r1
  obtain ⟨s2, ro2⟩ := hs.grow hfr r1 g1 (.inl rfl)
  have hM : Md (w1.setCell ⟨fB, k * 6 + j, none⟩ v) S (upd L1 (.fr u) (.rw 113 6 (.slice (some ⟨fB, 0, none⟩) (k + 1) fc) ((((setTop s.c f').frs).zip (raws.set k (lv, bv'))).flatMap frG))) u P M { s with c := setTop s.c f' } := by
    refine h.recfg s2 (ro.trans' ro2) (fun _ h => h) ⟨.slice (some ⟨fB, 0, none⟩) (k + 1) fc, sv, vv, ?_, ⟨raws.set k (lv, bv'), ?_, ?_, fun k' f1 r1 x y => ?_⟩, ?_, ?_⟩ (cf_upd (fun q hq => hK q (by rintro rfl; cases hq)) rfl)
    · rw [upd_other _ _ (by simp), hK _ (by simp)]; exact hf.cfg
    · rw [List.length_set, hf.len]; simp [setTop]
    · rw [upd_same]; rfl
    · rw [upd_other _ _ (by simp), upd_other _ _ (by simp)]
      have x : (s.c.frs.set (s.c.frs.length - 1) f')[k']? = some f1 := x
      rw [hk, Nat.add_sub_cancel, List.getElem?_set] at x
      rw [List.getElem?_set] at y
      by_cases e : k = k'
      · subst e
        rw [if_pos rfl, if_pos (by omega)] at x
        rw [if_pos rfl, if_pos (by rw [hf.len]; omega)] at y
        cases x
        cases y
        exact ⟨by rw [hK _ (by simp)]; show _ = some (Ck.rw 26 1 lv (ints .u64 f'.loc)); rw [hloc]; exact hf.loc, hl⟩
      · rw [if_neg e] at x y
        obtain ⟨a, b⟩ := hf.all k' f1 r1 x y
        exact ⟨(hK _ (by simp)).trans a, (hK _ (by simp; exact fun h => e h.symm)).trans b⟩
    · rw [upd_other _ _ (by simp), hK _ (by simp)]; exact hf.st
    · rw [upd_other _ _ (by simp), hK _ (by simp)]; exact hf.va
  have hk' : ({ s with c := setTop s.c f' } : Ms).c.frs.length = k + 1 := by simp [setTop, hk]
  have ht' : ({ s with c := setTop s.c f' } : Ms).c.frs[k]? = some f' := by
    simp only [setTop, hk, Nat.add_sub_cancel]
    rw [List.getElem?_set_self (by omega)]
  obtain ⟨fB2, fc2, sv2, vv2, raws2, lv2, bv2, hf2⟩ := hM.frm k f' hk' ht'
  have e1 := hf2.cfg
  rw [upd_other _ _ (by simp), hK _ (by simp), hf.cfg] at e1
  simp only [Option.some.injEq, Ck.cl.injEq, List.cons.injEq, Value.slice.injEq, Addr.mk.injEq, and_true, true_and] at e1
  obtain ⟨⟨rfl, rfl⟩, rfl, _, _, rfl⟩ := e1
  have e2 := hf2.loc
  rw [upd_other _ _ (by simp), hK _ (by simp), hf.loc] at e2
  simp only [Option.some.injEq, Ck.rw.injEq, true_and] at e2
  obtain ⟨rfl, _⟩ := e2
  have e3 := hf2.lab
  rw [upd_other _ _ (by simp), hl] at e3
  simp only [Option.some.injEq, Ck.rw.injEq, true_and, and_true] at e3
  obtain rfl := e3
  exact ⟨S, _, raws2, hM, (Keep.upd (fun q hq => hK q (by rintro rfl; exact hq rfl)) rfl), ro.trans' ro2, fun _ h => h, hf2⟩
theorem frame_numF {k fB fc : Nat} {f : Fr} {sv vv lv bv : Value} {raws : List (Value × Value)} (h : Md w S L u P M s) (hf : Frm w L u P s k f fB fc sv vv raws lv bv) (hk : s.c.frs.length = k + 1) (n : Int) :
    ToF w S L u P M (w.setCell ⟨fB, k * 6 + 1, none⟩ (.int .i64 n)) { s with c := setTop s.c { f with at_ := n } } k { f with at_ := n } fB fc sv vv lv bv :=
  frame_putF h hf hk h.sep (Ro.refl _ _) (fun _ _ => rfl) { f with at_ := n } bv hf.lab rfl 1 _ (by omega) rfl
/-- One number of the last frame is set. -/
theorem frame_num {k fB fc : Nat} {f : Fr} {sv vv lv bv : Value} {raws : List (Value × Value)} (h : Md w S L u P M s) (hf : Frm w L u P s k f fB fc sv vv raws lv bv) (hk : s.c.frs.length = k + 1) (n : Int) :
    To w S L u P M (w.setCell ⟨fB, k * 6 + 1, none⟩ (.int .i64 n)) { s with c := setTop s.c { f with at_ := n } } :=
  frame_put h hf hk h.sep (Ro.refl _ _) (fun _ _ => rfl) { f with at_ := n } bv hf.lab rfl 1 _ (by omega) rfl
theorem infoLb : (Tryz.prog.info? 146).map (fun i => (i.zero, i.size, i.bytes)) = some (some (.agg #[.int .i64 0, .int .i64 0, .int .i64 0]), 3, 24) := by kernel_rfl
theorem labC_len (l : List Lb) : (labC l).length = l.length * 3 := flat_len _ 3 (fun _ => rfl) l
theorem Frm.lab_form {k fB fc : Nat} {f : Fr} {sv vv lv bv : Value} {raws : List (Value × Value)} (h : Md w S L u P M s) (hf : Frm w L u P s k f fB fc sv vv raws lv bv) : ∃ A c, bv = .slice A f.lab.length c ∧ f.lab.length ≤ c ∧ Row w 146 3 (.slice A f.lab.length c) (labC f.lab) := by
  have hr := h.sep.holds _ _ hf.lab
  have hr' : Row w 146 3 bv (labC f.lab) := hr
  obtain ⟨A, n, c, rfl, h1, h2, h3, h4, h5⟩ := hr
  rw [labC_len] at h1
  obtain rfl : n = f.lab.length := by omega
  exact ⟨A, c, rfl, h3, hr'⟩
/-- The last frame's labels are cut. -/
theorem labs_cut {k fB fc : Nat} {f : Fr} {sv vv lv : Value} {A : Option Addr} {m0 c : Nat} {raws : List (Value × Value)} (h : Md w S L u P M s) (hf : Frm w L u P s k f fB fc sv vv raws lv (.slice A m0 c)) (hk : s.c.frs.length = k + 1) (m : Nat) (hm : m ≤ f.lab.length) (hm0 : m0 = f.lab.length) :
    To w S L u P M (w.setCell ⟨fB, k * 6 + 5, none⟩ (.slice A m c)) { s with c := setTop s.c { f with lab := f.lab.take m } } := by
  subst hm0
  have hr : Row w 146 3 (.slice A m c) (labC (f.lab.take m)) := by
    obtain ⟨A', n', c', hv, h1, hA, h2, h3, h4⟩ := h.sep.holds _ _ hf.lab
    cases hv
    refine ⟨A, m, c, rfl, by rw [labC_len, List.length_take]; omega, hA, by omega, h3, fun h0 => ?_⟩
    obtain ⟨g, cur, rfl, hg1, hc1, ht⟩ := h4 h0
    refine ⟨g, cur, rfl, hg1, hc1, ?_⟩
    have := congrArg (List.take (m * 3)) ht
    rw [List.take_take, Nat.min_eq_left (by omega)] at this
    rw [this]
    exact flat_take _ 3 (fun _ => rfl) f.lab m
  obtain ⟨s1, r1⟩ := h.sep.grow hf.lab hr ⟨rfl, rfl, rfl, Nat.le_refl _, fun _ _ _ => rfl⟩ (.inl (by cases A <;> rfl))
  exact frame_put h hf hk s1 r1 (fun q hq => upd_other _ _ hq) { f with lab := f.lab.take m } (.slice A m c) (upd_same _ _ _) rfl 5 _ (by omega) rfl
end Go.Proofs.YtmnebeikafigjaaGreatDoor
/- step's machine: closes, skips. -/
set_option linter.unusedVariables false
namespace Go.Proofs.YtmnebeikafigjaaGreatDoor
open Go.RowKit Go.Sep Go.St
variable {w : World} {S : Nat → Prop} {L : Key → Option Ck} {u : Nat} {P : Ptrs} {M : Mo} {s : Ms}
/-- What the last frame must be for a walk. -/
structure FrOk (f : Fr) : Prop where
  fn : 0 ≤ f.fn ∧ f.fn < 4294967296
  at_ : -1000000000 < f.at_ ∧ f.at_ < 1000000000
  ar : -4611686018427387904 < f.ar ∧ f.ar < 4611686018427387904
  ll : f.lab.length ≤ 1000000000
  lab : ∀ l ∈ f.lab, (-1000000000 < l.to ∧ l.to < 1000000000) ∧ (-4611686018427387904 < l.ar ∧ l.ar < 4611686018427387904)
set_option maxRecDepth 100000 in
theorem closes_c (h : Md w S L u P M s) {k fB fc : Nat} {f : Fr} {sv vv lv bv : Value} {raws : List (Value × Value)} (hf : Frm w L u P s k f fB fc sv vv raws lv bv) (hk : s.c.frs.length = k + 1) (hk2 : k ≤ 1000000)
    (ok : FrOk f) (hb : s.c.st.length ≤ 1000000000) :
    Calls Tryz.prog 75 #[.pointer (some ⟨P.mB, 0, none⟩)] w fun e w' => e = .returned (.tuple #[]) ∧ To w S L u P M w' { s with c := closeC s.c f } := by
  obtain ⟨A, c, rfl, hmc, _⟩ := hf.lab_form h
  have HF := Lib.hid (frame_c h hf hk2)
  have SD : ∀ m, Still w (w.drewN m) := fun m => (Still.refl w).drewN m
  have f5 := hf.cell 5 _ rfl
  have z5 := hf.frozen (k * 6 + 5)
  have hll := ok.ll
  unfold closeC
  generalize hm : f.lab.length = m at f5 hmc hll ⊢
  have hi1 : IntKind.i64.wrap ((m : Int) - 1) = (m : Int) - 1 := IntWalk.i64_in _ (by omega)
  by_cases h0 : m = 0
  · subst h0
    rw [if_pos rfl]
    have HE := Lib.hid (fun n => stuck_yes (h.still (SD n)))
    clear h hf hk hk2 ok hb hm SD hmc hll
    go_enter Tryz.func75, Tryz.ntmps75
    go_wp2_with fail
    refine HF.out.mono ?_
    rintro e w1 ⟨rfl, n1, rfl⟩
    go_wp2_with fail
    refine (HE.out _).mono ?_
    rintro e w2 ⟨rfl, ht⟩
    have HT := Lib.hid ht
    clear ht
    go_wp2
    exact bodyPost_ret (v := .tuple #[]) (by simp [results, Tryz.results75, go_sem]) rfl ⟨rfl, HT.out⟩
  rw [if_neg h0]
  obtain ⟨j, rfl⟩ : ∃ j, m = j + 1 := ⟨m - 1, by omega⟩
  have hi2 : IntKind.i64.wrap (((j + 1 : Nat) : Int) - 1) = (j : Int) := by rw [hi1]; omega
  clear hi1
  have hi1 := hi2
  have d0 : decide ((j : Int) < 0) = false := decide_eq_false (by omega)
  by_cases h1 : j = 0
  · rw [if_pos (by omega)]
    have d1 : ((j : Int) == 0) = true := beq_iff_eq.2 (by omega)
    have HE := Lib.hid (fun n => leaves_c (h.still (SD n)) (hf.still (SD n)) hk hk2 ok.ar hb)
    clear h hf hk hk2 ok hb hm SD hmc hll h0 h1
    generalize hN : (j + 1 : Nat) = N at f5 hi1 hi2
    clear hN hi2
    go_enter Tryz.func75, Tryz.ntmps75
    go_wp2_with fail
    refine HF.out.mono ?_
    rintro e w1 ⟨rfl, n1, rfl⟩
    go_wp2_with (go_at_call 39; (with_reducible refine (stuck_no _ _).mono ?_); rintro e w2 ⟨rfl, rfl⟩)
    refine (HE.out _).mono ?_
    rintro e w2 ⟨rfl, ht⟩
    have HT := Lib.hid ht
    clear ht
    go_wp2
    exact bodyPost_ret (v := .tuple #[]) (by simp [results, Tryz.results75, go_sem]) rfl ⟨rfl, HT.out⟩
  · rw [if_neg (by omega), Nat.add_sub_cancel]
    obtain ⟨i0, hi, _, hz1, _⟩ := info_parts infoLb
    have hcut := slice_to (P := Tryz.prog) (t := 111) Tryz.underlying111 hi A (j + 1) c j (by omega) hmc
    have d1 : ((j : Int) == 0) = false := beq_eq_false_iff_ne.2 (by omega)
    have key : ∀ n, To w S L u P M ((w.drewN n).setCell ⟨fB, k * 6 + 5, none⟩ (.slice A j c)) { s with c := setTop s.c { f with lab := f.lab.take j } } := by
      intro n
      exact labs_cut (h.still (SD n)) (hf.still (SD n)) hk j (by omega) rfl
    have KEY := Lib.hid key
    clear h hf hk hk2 ok hb hm SD hmc hll h0 hi hz1 key h1
    generalize hN : (j + 1 : Nat) = N at f5 hi1 hi2 hcut
    clear hN hi2
    go_enter Tryz.func75, Tryz.ntmps75
    go_wp2_with fail
    refine HF.out.mono ?_
    rintro e w1 ⟨rfl, n1, rfl⟩
    go_wp2_with (go_at_call 39; (with_reducible refine (stuck_no _ _).mono ?_); rintro e w2 ⟨rfl, rfl⟩)
    go_end0
    exact ⟨rfl, KEY.out _⟩
end Go.Proofs.YtmnebeikafigjaaGreatDoor
