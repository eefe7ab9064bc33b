/- Lemmas of the walk, part 1. -/
import Derived.Test.YtjbdldekllffkaaGreatDoorJ0
import Derived.BigQuiet
import Derived.Carry
import Derived.LoopTactic
import Derived.Laws.MakeOwn
/- step's machine: frames: the last one, its cells. -/
set_option linter.unusedVariables false
namespace Go.Proofs.YtjbdldekllffkaaGreatDoor
open Go.RowKit Go.Sep Go.St
section
variable {α β : Type}
theorem flat_get (g : α → List β) (sz : Nat) (hg : ∀ x, (g x).length = sz) : ∀ (l : List α) (k j : Nat), j < sz → (l.flatMap g)[k * sz + j]? = (l[k]?).bind fun x => (g x)[j]?
  | [], k, j, hj => by simp
  | x :: r, 0, j, hj => by
    rw [List.flatMap_cons, Nat.zero_mul, Nat.zero_add, List.getElem?_append_left (by rw [hg]; exact hj)]
    rfl
  | x :: r, k + 1, j, hj => by
    rw [List.flatMap_cons, List.getElem?_append_right (by rw [hg, Nat.succ_mul]; omega), hg, show (k + 1) * sz + j - sz = k * sz + j by rw [Nat.succ_mul]; omega, flat_get g sz hg r k j hj]
    rfl
theorem flat_len (g : α → List β) (sz : Nat) (hg : ∀ x, (g x).length = sz) : ∀ l : List α, (l.flatMap g).length = l.length * sz
  | [] => by simp
  | x :: r => by rw [List.flatMap_cons, List.length_append, hg, flat_len g sz hg r, List.length_cons, Nat.succ_mul, Nat.add_comm]
theorem flat_set (g : α → List β) (sz : Nat) (hg : ∀ x, (g x).length = sz) : ∀ (l : List α) (k j : Nat) (x y : α) (v : β), j < sz → l[k]? = some x → g y = (g x).set j v → (l.flatMap g).set (k * sz + j) v = (l.set k y).flatMap g
  | [], k, j, x, y, v, hj, h, e => by simp at h
  | z :: r, 0, j, x, y, v, hj, h, e => by
    simp at h
    subst h
    rw [List.flatMap_cons, Nat.zero_mul, Nat.zero_add, List.set_append_left _ _ (by rw [hg]; exact hj), List.set_cons_zero, List.flatMap_cons, e]
  | z :: r, k + 1, j, x, y, v, hj, h, e => by
    rw [List.flatMap_cons, List.set_append_right _ _ (by rw [hg, Nat.succ_mul]; omega), hg, show (k + 1) * sz + j - sz = k * sz + j by rw [Nat.succ_mul]; omega, flat_set g sz hg r k j x y v hj (by simpa using h) e, List.set_cons_succ, List.flatMap_cons]
theorem flat_take (g : α → List β) (sz : Nat) (hg : ∀ x, (g x).length = sz) (l : List α) (k : Nat) : (l.flatMap g).take (k * sz) = (l.take k).flatMap g := by
  induction l generalizing k with
  | nil => simp
  | cons x r ih =>
    cases k with
    | zero => simp
    | succ k =>
      rw [List.flatMap_cons, List.take_succ_cons, List.flatMap_cons, List.take_append, hg, List.take_of_length_le (by rw [hg, Nat.succ_mul]; omega), show (k + 1) * sz - sz = k * sz by rw [Nat.succ_mul]; omega, ih]
end
variable {w : World} {S : Nat → Prop} {L : Key → Option Ck} {u : Nat} {P : Ptrs} {M : Mo} {s : Ms}
theorem Row.cell {w : World} {e sz : Nat} {b n c : Nat} {xs : List Value} (h : Row w e sz (.slice (some ⟨b, 0, none⟩) n c) xs) (hc : 0 < c) (j : Nat) (v : Value) (hv : xs[j]? = some v) : w.cell? ⟨b, j, none⟩ = some v ∧ w.frozen? ⟨b, j, none⟩ = false := by
  obtain ⟨A, n', c', e1, h1, hA, h2, h3, h4⟩ := h
  cases e1
  obtain ⟨g, cur, e2, hg, hcs, ht⟩ := h4 hc
  cases e2
  refine ⟨?_, by simp [World.frozen?, hg]⟩
  rw [← ht, List.getElem?_take] at hv
  split at hv
  · simp [World.cell?, hg]; simpa using hv
  · cases hv
def frG (p : Fr × Value × Value) : List Value := frC p.1 p.2.1 p.2.2
theorem frG_len (p : Fr × Value × Value) : (frG p).length = 6 := rfl
/-- The frames as they lie: the last one is number k. -/
structure Frm (w : World) (L : Key → Option Ck) (u : Nat) (P : Ptrs) (s : Ms) (k : Nat) (f : Fr) (fB fc : Nat) (sv vv : Value) (raws : List (Value × Value)) (lv bv : Value) : Prop where
  cfg : L (.cfg u) = some (.cl P.cB P.co [.slice (some ⟨fB, 0, none⟩) (k + 1) fc, sv, .bool s.c.ov, .int .i64 s.c.er, vv])
  st : L (.st u) = some (.rw 58 1 sv (ints .u64 s.c.st))
  va : L (.va u) = some (.rw 58 1 vv (ints .u64 s.c.va))
  len : raws.length = s.c.frs.length
  fr : L (.fr u) = some (.rw 118 6 (.slice (some ⟨fB, 0, none⟩) (k + 1) fc) ((s.c.frs.zip raws).flatMap frG))
  all : ∀ (k : Nat) f r, s.c.frs[k]? = some f → raws[k]? = some r → L (.loc u k) = some (.rw 58 1 r.1 (ints .u64 f.loc)) ∧ L (.lab u k) = some (.rw 120 3 r.2 (labC f.lab))
  top : s.c.frs[k]? = some f
  raw : raws[k]? = some (lv, bv)
  loc : L (.loc u k) = some (.rw 58 1 lv (ints .u64 f.loc))
  lab : L (.lab u k) = some (.rw 120 3 bv (labC f.lab))
  le : k + 1 ≤ fc
  cell : ∀ j v, (frC f lv bv)[j]? = some v → w.cell? ⟨fB, k * 6 + j, none⟩ = some v
  frozen : ∀ j, w.frozen? ⟨fB, j, none⟩ = false
  m0 : w.cell? ⟨P.mB, 0, none⟩ = some (.pointer (some ⟨P.cB, P.co, none⟩))
  m1 : w.cell? ⟨P.mB, 1, none⟩ = some (.pointer (some ⟨P.iB, 0, none⟩))
  c0 : w.cell? ⟨P.cB, P.co, none⟩ = some (.slice (some ⟨fB, 0, none⟩) (k + 1) fc)
  c1 : w.cell? ⟨P.cB, P.co + 1, none⟩ = some sv
theorem Md.frm (h : Md w S L u P M s) (k : Nat) (f : Fr) (hk : s.c.frs.length = k + 1) (hf : s.c.frs[k]? = some f) : ∃ fB fc sv vv raws lv bv, Frm w L u P s k f fB fc sv vv raws lv bv := by
  obtain ⟨fv, sv, vv, hC, ⟨raws, hl, hR, hA⟩, hS, hV⟩ := h.cfg
  have hrow := h.sep.holds _ _ hR
  have hflat : ((s.c.frs.zip raws).flatMap fun p => frC p.1 p.2.1 p.2.2) = (s.c.frs.zip raws).flatMap frG := rfl
  rw [hflat] at hR
  obtain ⟨A, n, c, rfl, h1, h2, h3, h4, h5⟩ := hrow
  rw [hflat, flat_len frG 6 frG_len, List.length_zip, hl, Nat.min_self] at h1
  obtain rfl : n = k + 1 := by omega
  obtain ⟨g, cur, rfl, hg, hcs, ht⟩ := h5 (by omega)
  have hr : k < raws.length := by omega
  have hraw : raws[k]? = some raws[k] := List.getElem?_eq_getElem hr
  obtain ⟨hloc, hlab⟩ := hA k f raws[k] hf hraw
  have hrow : Row w 118 6 (.slice (some ⟨g, 0, none⟩) (k + 1) c) ((s.c.frs.zip raws).flatMap frG) := h.sep.holds _ _ hR
  refine ⟨g, c, sv, vv, raws, raws[k].1, raws[k].2, hC, hS, hV, hl, hR, hA, hf, hraw, hloc, hlab, by omega, fun j v hj => ?_, fun j => ?_, h.sep.cell0 h.mach 0 _ rfl, h.sep.cell0 h.mach 1 _ rfl, h.sep.cellA hC, h.sep.cell hC 1 _ rfl⟩
  · have hj6 : j < 6 := (List.getElem?_eq_some_iff.1 hj).1
    refine (Row.cell hrow (by omega) (k * 6 + j) v ?_).1
    rw [flat_get frG 6 frG_len _ k j hj6, (List.getElem?_zip_eq_some (z := (f, raws[k]))).2 ⟨hf, hraw⟩]
    exact hj
  · simp [World.frozen?, hg]
theorem frame_c (h : Md w S L u P M s) {k fB fc : Nat} {f : Fr} {sv vv lv bv : Value} {raws : List (Value × Value)} (hf : Frm w L u P s k f fB fc sv vv raws lv bv) (hb : k ≤ 1000000) :
    Calls Tryz.prog 53 #[.pointer (some ⟨P.mB, 0, none⟩)] w fun e w' => e = .returned (.pointer (some ⟨fB, k * 6, none⟩)) ∧ ∃ n, w' = w.drewN n := by
  have m0 := hf.m0
  have c0 := hf.c0
  have hi1 : IntKind.i64.wrap (((k + 1 : Nat) : Int) - 1) = (k : Int) := by rw [IntWalk.i64_in _ (by omega)]; omega
  have hi2 : (0 : Int) ≤ (k : Int) := by omega
  have hi3 : (k : Int) < ((k + 1 : Nat) : Int) := by omega
  generalize hN : k + 1 = N at c0 hi1 hi3
  have HN := Lib.hid hN
  clear h hf hb hN
  go_enter Tryz.func53, Tryz.ntmps53
  go_wp2_with fail
  go_quiet (fail)
  go_wp2
  go_ret
  exact ⟨rfl, _, rfl⟩
end Go.Proofs.YtjbdldekllffkaaGreatDoor
/- step's machine: what is read of the module: has, function, op. -/
set_option linter.unusedVariables false
namespace Go.Proofs.YtjbdldekllffkaaGreatDoor
open Go.RowKit Go.Sep Go.St
variable {w : World} {S : Nat → Prop} {L : Key → Option Ck} {u : Nat} {P : Ptrs} {M : Mo} {s : Ms}
/-- Nothing that was there has changed. -/
def Still (w w' : World) : Prop := (w.heap.size ≤ w'.heap.size ∧ w'.os = w.os ∧ w'.output = w.output) ∧ ∀ b, b < w.heap.size → w'.heap[b]? = w.heap[b]?
theorem Still.refl (w : World) : Still w w := ⟨⟨Nat.le_refl _, rfl, rfl⟩, fun _ _ => rfl⟩
theorem Still.trans {a b c : World} (h : Still a b) (k : Still b c) : Still a c := ⟨⟨Nat.le_trans h.1.1 k.1.1, k.1.2.1.trans h.1.2.1, k.1.2.2.trans h.1.2.2⟩, fun x hx => (k.2 x (Nat.lt_of_lt_of_le hx h.1.1)).trans (h.2 x hx)⟩
theorem Still.drewN {a b : World} (h : Still a b) (n : Nat) : Still a (b.drewN n) := h
theorem Still.drew {a b : World} (h : Still a b) : Still a b.drew := h
theorem Still.alloc {a b : World} (h : Still a b) (o : Obj) : Still a (b.alloc o) := h.trans ⟨⟨by simp, rfl, rfl⟩, fun x hx => heap_alloc_old b o hx⟩
theorem Still.grown {a b : World} (h : a.grownBy b none) : Still a b := ⟨⟨h.size, h.os, h.output⟩, fun b hb => h.block b hb (by simp)⟩
theorem Still.setNew {a b : World} (h : Still a b) (p : Addr) (v : Value) (hp : a.heap.size ≤ p.block) : Still a (b.setCell p v) := by
  refine ⟨by simpa [World.setCell] using h.1, fun x hx => ?_⟩
  rw [← h.2 x hx]
  simp only [World.setCell, Array.getElem?_modify]
  rw [if_neg (by omega)]
theorem Still.ro {a b : World} (h : Still a b) {S : Nat → Prop} (hS : ∀ b, S b → b < a.heap.size) : Ro S a b := ⟨h.1, fun x hx => h.2 x (hS x hx)⟩
theorem Still.cell {a b : World} (h : Still a b) {p : Addr} {v : Value} (hc : a.cell? p = some v) : b.cell? p = some v := (World.cell?_of_block (h.2 p.block (World.block_lt_of_cell? a p hc))).trans hc
theorem Md.still {w' : World} (h : Md w S L u P M s) (k : Still w w') : Md w' S L u P M s := h.recfg (h.sep.still k.1.1 k.2) (k.ro h.sep.lt) (fun _ h => h) h.cfg (fun _ _ => rfl)
theorem To.still {w' : World} (h : Md w S L u P M s) (k : Still w w') : To w S L u P M w' s := ⟨S, L, h.still k, Keep.refl _ _, k.ro h.sep.lt, fun _ h => h⟩
theorem Frm.still {w' : World} {k fB fc : Nat} {f : Fr} {sv vv lv bv : Value} {raws : List (Value × Value)} (h : Frm w L u P s k f fB fc sv vv raws lv bv) (q : Still w w') : Frm w' L u P s k f fB fc sv vv raws lv bv := by
  have hlt : fB < w.heap.size := World.block_lt_of_cell? w _ (h.cell 0 _ rfl)
  exact ⟨h.cfg, h.st, h.va, h.len, h.fr, h.all, h.top, h.raw, h.loc, h.lab, h.le, fun j v hj => q.cell (h.cell j v hj), fun j => (World.frozen?_of_block (a := ⟨fB, j, none⟩) (q.2 fB hlt)).trans (h.frozen j), q.cell h.m0, q.cell h.m1, q.cell h.c0, q.cell h.c1⟩
/-- The instance as it lies. -/
structure Inx (w : World) (S : Nat → Prop) (L : Key → Option Ck) (u : Nat) (P : Ptrs) (M : Mo) (s : Ms) (mc : List Value) (tA fA cA bA : Option Addr) (tc fc cc bc : Nat) (mv tv gv ev dv : Value) : Prop where
  ins : L (.ins u) = some (.cl P.iB 0 (mc ++ [.slice bA s.i.blocks.length bc, mv, tv, gv, ev, dv]))
  len : mc.length = 13
  mod : ModR w S M mc
  types : RdL w S 2 (FtR w S) (.slice tA M.types.length tc) M.types
  funcs : RdL w S 1 (num1 .u32) (.slice fA M.funcs.length fc) M.funcs
  codes : RdL w S 2 (CdR w S) (.slice cA M.codes.length cc) M.codes
  blocks : RdL w S 1 (BlkR w S) (.slice bA s.i.blocks.length bc) s.i.blocks
  mem : L (.mem u) = some (.rw 5 1 mv (ints .u8 s.i.mem))
  tabs : TabsAt L u tv s.i.tabs
  glo : L (.glo u) = some (.rw 58 1 gv (ints .u64 s.i.glo))
  els : L (.els u) = some (.rw 4 1 ev (bools s.i.els))
  das : L (.das u) = some (.rw 4 1 dv (bools s.i.das))
  m0 : w.cell? ⟨P.mB, 0, none⟩ = some (.pointer (some ⟨P.cB, P.co, none⟩))
  m1 : w.cell? ⟨P.mB, 1, none⟩ = some (.pointer (some ⟨P.iB, 0, none⟩))
  m2 : w.cell? ⟨P.mB, 2, none⟩ = some P.jp
  i0 : w.cell? ⟨P.iB, 0, none⟩ = some (.slice tA M.types.length tc)
  i1 : w.cell? ⟨P.iB, 1, none⟩ = some (.slice fA M.funcs.length fc)
  i11 : w.cell? ⟨P.iB, 11, none⟩ = some (.slice cA M.codes.length cc)
  i13 : w.cell? ⟨P.iB, 13, none⟩ = some (.slice bA s.i.blocks.length bc)
  i14 : w.cell? ⟨P.iB, 14, none⟩ = some mv
  i15 : w.cell? ⟨P.iB, 15, none⟩ = some tv
  i16 : w.cell? ⟨P.iB, 16, none⟩ = some gv
  i17 : w.cell? ⟨P.iB, 17, none⟩ = some ev
  i18 : w.cell? ⟨P.iB, 18, none⟩ = some dv
  iz : ∀ j, w.frozen? ⟨P.iB, j, none⟩ = false
theorem Md.inx (h : Md w S L u P M s) : ∃ mc tA fA cA bA tc fc cc bc mv tv gv ev dv, Inx w S L u P M s mc tA fA cA bA tc fc cc bc mv tv gv ev dv := by
  obtain ⟨mc, bv, mv, tv, gv, ev, dv, h1, h2, h3, h4, h5, h6, h7, h8⟩ := h.ins
  obtain ⟨v0, e0, r0⟩ := h2.types
  obtain ⟨v1, e1, r1⟩ := h2.funcs
  obtain ⟨v11, e11, r11⟩ := h2.codes
  have r0' := r0
  have r1' := r1
  have r11' := r11
  have h3' := h3
  obtain ⟨tA, tc, rfl, _⟩ := r0
  obtain ⟨fA, fc, rfl, _⟩ := r1
  obtain ⟨cA, cc, rfl, _⟩ := r11
  obtain ⟨bA, bc, rfl, _⟩ := h3
  have hl := h2.len
  have get : ∀ j v, mc[j]? = some v → w.cell? ⟨P.iB, j, none⟩ = some v := fun j v hj => h.sep.cell0 h1 j v (by rw [List.getElem?_append_left (List.getElem?_eq_some_iff.1 hj).1]; exact hj)
  have get2 : ∀ j v, [Value.slice bA s.i.blocks.length bc, mv, tv, gv, ev, dv][j]? = some v → w.cell? ⟨P.iB, 13 + j, none⟩ = some v := fun j v hj => h.sep.cell0 h1 (13 + j) v (by rw [List.getElem?_append_right (by omega), hl, Nat.add_sub_cancel_left]; exact hj)
  exact ⟨mc, tA, fA, cA, bA, tc, fc, cc, bc, mv, tv, gv, ev, dv, ⟨h1, hl, h2, r0', r1', r11', h3', h4, h5, h6, h7, h8, h.sep.cell0 h.mach 0 _ rfl, h.sep.cell0 h.mach 1 _ rfl, h.sep.cell0 h.mach 2 _ rfl,
    get 0 _ e0, get 1 _ e1, get 11 _ e11, get2 0 _ rfl, get2 1 _ rfl, get2 2 _ rfl, get2 3 _ rfl, get2 4 _ rfl, get2 5 _ rfl, fun j => h.sep.frozen h1 j⟩⟩
theorem has_c (n : Int) (N : Nat) (b : Bool) (h0 : 0 ≤ n) (h1 : n < 4294967296) (hN : N ≤ maxLen) (hb : decide (n < (N : Int)) = b) (w : World) :
    Calls Tryz.prog 94 #[.int .u32 n, .int .i64 (N : Int)] w fun e w' => e = .returned (.bool b) ∧ w' = w := by
  unfold maxLen at hN
  have e1 : IntKind.u64.wrap n = n := by simp [IntKind.wrap, IntKind.bits, IntKind.signed]; omega
  have e2 : IntKind.u64.wrap (N : Int) = (N : Int) := by simp [IntKind.wrap, IntKind.bits, IntKind.signed]; omega
  clear hN h0 h1
  go_enter Tryz.func94, Tryz.ntmps94
  go_wp2
  go_ret
  exact ⟨rfl, rfl⟩
theorem RdL.get1 {α : Type} {w : World} {S : Nat → Prop} {R : α → List Value → Prop} {A : Option Addr} {n c : Nat} {xs : List α} (h : RdL w S 1 R (.slice A n c) xs) (k : Nat) (x : α) (hx : xs[k]? = some x) :
    ∃ b o v, A = some ⟨b, o, none⟩ ∧ S b ∧ R x [v] ∧ w.cell? ⟨b, o + k, none⟩ = some v := by
  obtain ⟨b, o, cs, rfl, h1, h2, h3, h4⟩ := h.get k x hx
  match cs, h2 with
  | [v], _ => exact ⟨b, o, v, rfl, h1, h3, by have := h4 0 v rfl; rwa [Nat.mul_one, Nat.add_zero] at this⟩
theorem RdL.get2 {α : Type} {w : World} {S : Nat → Prop} {R : α → List Value → Prop} {A : Option Addr} {n c : Nat} {xs : List α} (h : RdL w S 2 R (.slice A n c) xs) (k : Nat) (x : α) (hx : xs[k]? = some x) :
    ∃ b o v v', A = some ⟨b, o, none⟩ ∧ S b ∧ R x [v, v'] ∧ w.cell? ⟨b, o + k * 2, none⟩ = some v ∧ w.cell? ⟨b, o + k * 2 + 1, none⟩ = some v' := by
  obtain ⟨b, o, cs, rfl, h1, h2, h3, h4⟩ := h.get k x hx
  match cs, h2 with
  | [v, v'], _ => exact ⟨b, o, v, v', rfl, h1, h3, h4 0 v rfl, h4 1 v' rfl⟩
theorem RdL.len {α : Type} {w : World} {S : Nat → Prop} {sz : Nat} {R : α → List Value → Prop} {A : Option Addr} {n c : Nat} {xs : List α} (h : RdL w S sz R (.slice A n c) xs) : n = xs.length ∧ n ≤ c ∧ n ≤ maxLen := by
  obtain ⟨A, c, hv, h1, h2, _⟩ := h
  cases hv
  exact ⟨rfl, h1, by omega⟩
/-- What function gives: the type's two rows. -/
def FnYes (w : World) (S : Nat → Prop) (t : Ft) (e : Ending) (w' : World) : Prop := ∃ pA pc rA rc, e = .returned (.tuple #[.agg #[.slice pA t.ps.length pc, .slice rA t.rs.length rc], .bool true]) ∧ FtR w S t [.slice pA t.ps.length pc, .slice rA t.rs.length rc] ∧ Still w w'
theorem functionM_some {nb f : Nat} {t : Ft} (h : functionM M nb f = some t) : ∃ x, M.funcs[f]? = some x ∧ M.types[x.toNat]? = some t ∧ f < M.codes.length ∧ f < nb := by
  unfold functionM at h
  rw [Int.toNat_natCast] at h
  split at h
  · cases h
  · rename_i x hx
    split at h
    · cases h
    · rename_i t' ht
      split at h
      · rename_i hc
        injection h with h
        subst h
        exact ⟨x, hx, ht, hc.1, hc.2⟩
      · cases h
set_option maxRecDepth 100000 in
set_option maxHeartbeats 1000000 in
theorem function_yes (h : Md w S L u P M s) (f : Nat) (hf : f < 4294967296) (t : Ft) (ht : functionM M s.i.blocks.length f = some t) :
    Calls Tryz.prog 54 #[.pointer (some ⟨P.mB, 0, none⟩), .int .u32 (f : Int)] w (FnYes w S t) := by
  obtain ⟨mc, tA, fA, cA, bA, tc, fc, cc, bc, mv, tv, gv, ev, dv, hx⟩ := h.inx
  obtain ⟨x, hx1, hx2, hx3, hx4⟩ := functionM_some ht
  obtain ⟨fb, fo, fv, rfl, _, hfv, cf⟩ := hx.funcs.get1 f x hx1
  have hfv : fv = .int .u32 x := by have : [fv] = [.int .u32 x] := hfv; simpa using this
  subst hfv
  obtain ⟨x0, x1⟩ := h.wf.funcs x (List.mem_of_getElem? hx1)
  obtain ⟨n, rfl⟩ := Int.eq_ofNat_of_zero_le x0
  rw [Int.toNat_natCast] at hx2
  obtain ⟨tb, to_, pv, rv, rfl, _, ⟨pv', rv', hpr, hp, hr⟩, ct, ct1⟩ := hx.types.get2 n t hx2
  obtain ⟨rfl, rfl⟩ : pv = pv' ∧ rv = rv' := by simpa using hpr
  have hp' := hp
  have hr' := hr
  obtain ⟨pA, pc, rfl, qp⟩ := hp
  obtain ⟨rA, rc, rfl, qr⟩ := hr
  clear qp qr
  have FIN := Lib.hid (⟨_, _, rfl, hp', hr'⟩ : FtR w S t [.slice pA t.ps.length pc, .slice rA t.rs.length rc])
  have a1 := (List.getElem?_eq_some_iff.1 hx1).1
  have a2 := (List.getElem?_eq_some_iff.1 hx2).1
  have HS1 := fun w => has_c (f : Int) M.funcs.length true (by omega) (by omega) hx.funcs.len.2.2 (by simpa using a1) w
  have HS2 := fun w => has_c (n : Int) M.types.length true (by omega) (by omega) hx.types.len.2.2 (by simpa using a2) w
  have HS3 := fun w => has_c (f : Int) M.codes.length true (by omega) (by omega) hx.codes.len.2.2 (by simpa using hx3) w
  have HS4 := fun w => has_c (f : Int) s.i.blocks.length true (by omega) (by omega) hx.blocks.len.2.2 (by simpa using hx4) w
  have G1 := Lib.hid HS1
  have G2 := Lib.hid HS2
  have G3 := Lib.hid HS3
  have G4 := Lib.hid HS4
  have m1 := hx.m1
  have i0 := hx.i0
  have i1 := hx.i1
  have i11 := hx.i11
  have i13 := hx.i13
  have b1 : (0 : Int) ≤ (f : Int) := by omega
  have b2 : (f : Int) < (M.funcs.length : Int) := by omega
  have b3 : (0 : Int) ≤ (n : Int) := by omega
  have b4 : (n : Int) < (M.types.length : Int) := by omega
  have l1 := World.block_lt_of_cell? w _ m1
  have l2 := World.block_lt_of_cell? w _ i0
  have l3 := World.block_lt_of_cell? w _ cf
  have l4 := World.block_lt_of_cell? w _ ct
  clear h hx HS1 HS2 HS3 HS4 hp' hr' hpr hfv ht hx1 hx2 hf x0 x1 a1 a2 hx3 hx4
  go_enter Tryz.func54, Tryz.ntmps54
  go_wp2_with fail
  go_quiet ((go_at_call 94; first | (with_reducible exact Calls.quiet_of_same (G1.out _)) | (with_reducible exact Calls.quiet_of_same (G2.out _)) | (with_reducible exact Calls.quiet_of_same (G3.out _)) | (with_reducible exact Calls.quiet_of_same (G4.out _))))
  go_wp2_with fail
  refine wp_region_z (fun w' => w'.cell? ⟨P.iB, 0, none⟩ = some (.slice (some ⟨tb, to_, none⟩) M.types.length tc) ∧ w'.cell? ⟨P.iB, 1, none⟩ = some (.slice (some ⟨fb, fo, none⟩) M.funcs.length fc) ∧ w'.cell? ⟨fb, fo + f, none⟩ = some (.int .u32 (n : Int)) ∧ w'.cell? ⟨tb, to_ + n * 2, none⟩ = some (.slice pA t.ps.length pc) ∧ w'.cell? ⟨tb, to_ + n * 2 + 1, none⟩ = some (.slice rA t.rs.length rc)) (fun j => j == 13 || j == 14) (by kernel_rfl) ?_ (fun hHeld => ?_)
  · go_keep
  (refine wpZ_take (i := 0) (oi := ⟨some 61, .move (.tmp 6), 165, _, _, none⟩) (v := ?_) rfl (by kernel_rfl) (fun _ _ _ h => h) (by assumption) (Or.inl ⟨by rfl, ?_⟩) ?_; rotate_left 1; · ((intro w hSw; (try dsimp only at hSw); go_split_ands; go_simp) <;> (try with_reducible rfl)))
  try simp only [Act.put, List.setIfInBounds_toArray, List.set_cons_zero, List.set_cons_succ]
  (refine wpZ_take (i := 1) (oi := ⟨some 62, .nilCheck (.tmp 61), 0, _, _, none⟩) (v := ?_) rfl (by kernel_rfl) (fun _ _ _ h => h) (by assumption) (Or.inl ⟨by rfl, ?_⟩) ?_; rotate_left 1; · ((intro w hSw; (try dsimp only at hSw); go_split_ands; go_simp) <;> (try with_reducible rfl)))
  try simp only [Act.put, List.setIfInBounds_toArray, List.set_cons_zero, List.set_cons_succ]
  (refine wpZ_take (i := 2) (oi := ⟨some 63, .fieldAddr 39 (.tmp 62) 0, 0, _, _, none⟩) (v := ?_) rfl (by kernel_rfl) (fun _ _ _ h => h) (by assumption) (Or.inl ⟨by rfl, ?_⟩) ?_; rotate_left 1; · ((intro w hSw; (try dsimp only at hSw); go_split_ands; go_simp) <;> (try with_reducible rfl)))
  try simp only [Act.put, List.setIfInBounds_toArray, List.set_cons_zero, List.set_cons_succ]
  (refine wpZ_take (i := 3) (oi := ⟨some 64, .load 29 (.tmp 63), 29, _, _, none⟩) (v := ?_) rfl (by kernel_rfl) (fun _ _ _ h => h) (by assumption) (Or.inl ⟨by rfl, ?_⟩) ?_; rotate_left 1; · ((intro w hSw; (try dsimp only at hSw); go_split_ands; go_simp) <;> (try with_reducible rfl)))
  try simp only [Act.put, List.setIfInBounds_toArray, List.set_cons_zero, List.set_cons_succ]
  (refine wpZ_take (i := 4) (oi := ⟨some 65, .move (.tmp 6), 165, _, _, none⟩) (v := ?_) rfl (by kernel_rfl) (fun _ _ _ h => h) (by assumption) (Or.inl ⟨by rfl, ?_⟩) ?_; rotate_left 1; · ((intro w hSw; (try dsimp only at hSw); go_split_ands; go_simp) <;> (try with_reducible rfl)))
  try simp only [Act.put, List.setIfInBounds_toArray, List.set_cons_zero, List.set_cons_succ]
  (refine wpZ_take (i := 5) (oi := ⟨some 66, .nilCheck (.tmp 65), 0, _, _, none⟩) (v := ?_) rfl (by kernel_rfl) (fun _ _ _ h => h) (by assumption) (Or.inl ⟨by rfl, ?_⟩) ?_; rotate_left 1; · ((intro w hSw; (try dsimp only at hSw); go_split_ands; go_simp) <;> (try with_reducible rfl)))
  try simp only [Act.put, List.setIfInBounds_toArray, List.set_cons_zero, List.set_cons_succ]
  (refine wpZ_take (i := 6) (oi := ⟨some 67, .fieldAddr 39 (.tmp 66) 1, 0, _, _, none⟩) (v := ?_) rfl (by kernel_rfl) (fun _ _ _ h => h) (by assumption) (Or.inl ⟨by rfl, ?_⟩) ?_; rotate_left 1; · ((intro w hSw; (try dsimp only at hSw); go_split_ands; go_simp) <;> (try with_reducible rfl)))
  try simp only [Act.put, List.setIfInBounds_toArray, List.set_cons_zero, List.set_cons_succ]
  (refine wpZ_take (i := 7) (oi := ⟨some 68, .load 30 (.tmp 67), 30, _, _, none⟩) (v := ?_) rfl (by kernel_rfl) (fun _ _ _ h => h) (by assumption) (Or.inl ⟨by rfl, ?_⟩) ?_; rotate_left 1; · ((intro w hSw; (try dsimp only at hSw); go_split_ands; go_simp) <;> (try with_reducible rfl)))
  try simp only [Act.put, List.setIfInBounds_toArray, List.set_cons_zero, List.set_cons_succ]
  (refine wpZ_take (i := 8) (oi := ⟨some 69, .move (.tmp 1), 28, _, _, none⟩) (v := ?_) rfl (by kernel_rfl) (fun _ _ _ h => h) (by assumption) (Or.inl ⟨by rfl, ?_⟩) ?_; rotate_left 1; · ((intro w hSw; (try dsimp only at hSw); go_split_ands; go_simp) <;> (try with_reducible rfl)))
  try simp only [Act.put, List.setIfInBounds_toArray, List.set_cons_zero, List.set_cons_succ]
  (refine wpZ_take (i := 9) (oi := ⟨some 70, .indexAddr 30 (.tmp 68) (.tmp 69), 0, _, _, none⟩) (v := ?_) rfl (by kernel_rfl) (fun _ _ _ h => h) (by assumption) (Or.inl ⟨by rfl, ?_⟩) ?_; rotate_left 1; · ((intro w hSw; (try dsimp only at hSw); go_split_ands; go_simp) <;> (try with_reducible rfl)))
  try simp only [Act.put, List.setIfInBounds_toArray, List.set_cons_zero, List.set_cons_succ]
  (refine wpZ_take (i := 10) (oi := ⟨some 71, .load 28 (.tmp 70), 28, _, _, none⟩) (v := ?_) rfl (by kernel_rfl) (fun _ _ _ h => h) (by assumption) (Or.inl ⟨by rfl, ?_⟩) ?_; rotate_left 1; · ((intro w hSw; (try dsimp only at hSw); go_split_ands; go_simp) <;> (try with_reducible rfl)))
  try simp only [Act.put, List.setIfInBounds_toArray, List.set_cons_zero, List.set_cons_succ]
  (refine wpZ_take (i := 11) (oi := ⟨some 72, .indexAddr 29 (.tmp 64) (.tmp 71), 0, _, _, none⟩) (v := ?_) rfl (by kernel_rfl) (fun _ _ _ h => h) (by assumption) (Or.inl ⟨by rfl, ?_⟩) ?_; rotate_left 1; · ((intro w hSw; (try dsimp only at hSw); go_split_ands; go_simp) <;> (try with_reducible rfl)))
  try simp only [Act.put, List.setIfInBounds_toArray, List.set_cons_zero, List.set_cons_succ]
  (refine wpZ_take (i := 12) (oi := ⟨some 73, .load 65 (.tmp 72), 65, _, _, none⟩) (v := ?_) rfl (by kernel_rfl) (fun _ _ _ h => h) (by assumption) (Or.inl ⟨by rfl, ?_⟩) ?_; rotate_left 1; · ((intro w hSw; (try dsimp only at hSw); go_split_ands; go_simp) <;> (try with_reducible rfl)))
  try simp only [Act.put, List.setIfInBounds_toArray, List.set_cons_zero, List.set_cons_succ]
  refine wpZ_one (i := 13) (oi := ⟨none, .store 65 (.tmp 4) (.tmp 73), 0, _, _, none⟩) rfl (by kernel_rfl) (fun K hK => ?_)
  go_simp
  refine hK.out _ _ (fun h => by simp at h) (fun _ => ?_)
  clear hK K
  try simp only [Act.put, List.setIfInBounds_toArray, List.set_cons_zero, List.set_cons_succ]
  refine wpZ_one (i := 14) (oi := ⟨some 5, .assign (.const (.bool true)), 4, _, _, none⟩) rfl (by kernel_rfl) (fun K hK => ?_)
  go_simp
  refine hK.out _ _ (fun h => by simp at h) (fun _ => ?_)
  clear hK K
  try simp only [Act.put, List.setIfInBounds_toArray, List.set_cons_zero, List.set_cons_succ]
  refine wpZ_done (by kernel_rfl) ?_ _
  go_wp2
  exact bodyPost_ret (v := .tuple #[.agg #[.slice pA t.ps.length pc, .slice rA t.rs.length rc], .bool true]) (by simp [results, Tryz.results54, go_sem]) rfl ⟨pA, pc, rA, rc, rfl, FIN.out, by repeat (first | exact Still.refl _ | refine Still.drewN ?_ _ | refine Still.drew ?_ | refine Still.alloc ?_ _ | refine Still.setNew ?_ _ _ (by simp))⟩
end Go.Proofs.YtjbdldekllffkaaGreatDoor
/- ctrl's stack and walker. -/
set_option linter.unusedVariables false
set_option linter.unusedSimpArgs false
namespace Go.Proofs.YtjbdldekllffkaaGreatDoor
open Go.RowKit Go.Sep Go.St
theorem infoInt : (Tryz.prog.info? 3).map (fun i => (i.zero, i.size, i.bytes)) = some (some (.int .i64 0), 1, 8) := by kernel_rfl
theorem below_then {a b c : World} (h : Below a.heap.size a b) (k : Below b.heap.size b c) : Below a.heap.size a c :=
  h.trans ⟨k.os, k.tape, k.output, k.size, fun i hi => k.block i (Nat.lt_of_lt_of_le hi h.size)⟩
theorem heap_lt {w : World} {b : Nat} {o : Obj} (h : w.heap[b]? = some o) : b < w.heap.size := (Array.getElem?_eq_some_iff.1 h).1
/-- A walker of one's own: what it has, and that all behind W's end alone has turned. -/
structure Wk (W w : World) (b mr : Nat) (lv sv : Value) (st : List Int) (es : Es) (dp : Int) : Prop where
  bel : Below W.heap.size W w
  cells : w.heap[b]? = some (.cells #[sv, lv, .map (some mr), .int .i64 dp] 298 (0, 0))
  row : Row w 3 1 sv (ints .i64 st)
  map : MapF w mr es
  hb : W.heap.size ≤ b
  hm : W.heap.size ≤ mr
  hr : ∀ k, rowBlock sv = some k → W.heap.size ≤ k ∧ k ≠ b ∧ k ≠ mr
  ne : b ≠ mr
variable {W w : World} {b mr : Nat} {lv sv : Value} {st : List Int} {es : Es} {dp : Int}
theorem Wk.c0 (h : Wk W w b mr lv sv st es dp) : w.cell? ⟨b, 0, none⟩ = some sv := by simp [World.cell?, h.cells]
theorem Wk.c1 (h : Wk W w b mr lv sv st es dp) : w.cell? ⟨b, 1, none⟩ = some lv := by simp [World.cell?, h.cells]
theorem Wk.c2 (h : Wk W w b mr lv sv st es dp) : w.cell? ⟨b, 2, none⟩ = some (.map (some mr)) := by simp [World.cell?, h.cells]
theorem Wk.c3 (h : Wk W w b mr lv sv st es dp) : w.cell? ⟨b, 3, none⟩ = some (.int .i64 dp) := by simp [World.cell?, h.cells]
theorem Wk.fz (h : Wk W w b mr lv sv st es dp) (j : Nat) : w.frozen? ⟨b, j, none⟩ = false := by simp [World.frozen?, h.cells]
theorem Wk.still {w1 : World} (h : Wk W w b mr lv sv st es dp) (q : Below w.heap.size w w1) : Wk W w1 b mr lv sv st es dp :=
  ⟨below_then h.bel q, (q.block b (heap_lt h.cells)).trans h.cells, h.row.move fun k hk => q.block k (h.row.lt hk), h.map.move (q.block mr h.map.lt), h.hb, h.hm, h.hr, h.ne⟩
theorem Wk.drewN (h : Wk W w b mr lv sv st es dp) (n : Nat) : Wk W (w.drewN n) b mr lv sv st es dp := h.still ⟨rfl, rfl, rfl, Nat.le_refl _, fun _ _ => rfl⟩
theorem Wk.drew (h : Wk W w b mr lv sv st es dp) : Wk W w.drew b mr lv sv st es dp := h.still ⟨rfl, rfl, rfl, Nat.le_refl _, fun _ _ => rfl⟩
/-- The walker's cell j is written. -/
theorem Wk.set0 {sv1 : Value} {st1 : List Int} (h : Wk W w b mr lv sv st es dp) (hr : Row w 3 1 sv1 (ints .i64 st1)) (hd : ∀ k, rowBlock sv1 = some k → W.heap.size ≤ k ∧ k ≠ b ∧ k ≠ mr) :
    Wk W (w.setCell ⟨b, 0, none⟩ sv1) b mr lv sv1 st1 es dp :=
  ⟨h.bel.setCell h.hb _, by rw [setCell_heap b 0 sv1 h.cells b, if_pos rfl]; rfl, hr.move fun k hk => by rw [setCell_heap b 0 sv1 h.cells k, if_neg (hd k hk).2.1], h.map.move (by rw [setCell_heap b 0 sv1 h.cells mr, if_neg (Ne.symm h.ne)]), h.hb, h.hm, hd, h.ne⟩
theorem Wk.set3 (h : Wk W w b mr lv sv st es dp) (d : Int) : Wk W (w.setCell ⟨b, 3, none⟩ (.int .i64 d)) b mr lv sv st es d :=
  ⟨h.bel.setCell h.hb _, by rw [setCell_heap b 3 _ h.cells b, if_pos rfl]; rfl, h.row.move fun k hk => by rw [setCell_heap b 3 _ h.cells k, if_neg (h.hr k hk).2.1], h.map.move (by rw [setCell_heap b 3 _ h.cells mr, if_neg (Ne.symm h.ne)]), h.hb, h.hm, h.hr, h.ne⟩
/-- The stack's row has grown; what lies behind. -/
structure WkG (W w : World) (b mr : Nat) (lv sv sv1 : Value) (st1 : List Int) (es : Es) (dp : Int) : Prop where
  bel : Below W.heap.size W w
  cells : w.heap[b]? = some (.cells #[sv, lv, .map (some mr), .int .i64 dp] 298 (0, 0))
  row : Row w 3 1 sv1 (ints .i64 st1)
  map : MapF w mr es
  hb : W.heap.size ≤ b
  hm : W.heap.size ≤ mr
  hr : ∀ k, rowBlock sv1 = some k → W.heap.size ≤ k ∧ k ≠ b ∧ k ≠ mr
  ne : b ≠ mr
theorem Wk.grow {w1 : World} {sv1 : Value} {st1 : List Int} (h : Wk W w b mr lv sv st es dp) (hr : Row w1 3 1 sv1 (ints .i64 st1)) (hg : w.grownBy w1 (rowBlock sv)) (ha : rowBlock sv1 = rowBlock sv ∨ ∃ k, rowBlock sv1 = some k ∧ w.heap.size ≤ k) :
    WkG W w1 b mr lv sv sv1 st1 es dp := by
  have hbl := heap_lt h.cells
  have hml := h.map.lt
  refine ⟨h.bel.grown hg h.bel.size fun k hk => (h.hr k hk).1, (hg.block b hbl (fun e => (h.hr b e.symm).2.1 rfl)).trans h.cells, hr, h.map.move (hg.block mr hml (fun e => (h.hr mr e.symm).2.2 rfl)), h.hb, h.hm, fun k hk => ?_, h.ne⟩
  rcases ha with ha | ⟨q, hq, hle⟩
  · exact h.hr k (ha ▸ hk)
  · rw [hq] at hk
    cases hk
    exact ⟨Nat.le_trans h.bel.size hle, by omega, by omega⟩
theorem WkG.c0 {sv1 : Value} (h : WkG W w b mr lv sv sv1 st es dp) : w.cell? ⟨b, 0, none⟩ = some sv := by simp [World.cell?, h.cells]
theorem WkG.fz {sv1 : Value} (h : WkG W w b mr lv sv sv1 st es dp) (j : Nat) : w.frozen? ⟨b, j, none⟩ = false := by simp [World.frozen?, h.cells]
theorem WkG.put {sv1 : Value} (h : WkG W w b mr lv sv sv1 st es dp) : Wk W (w.setCell ⟨b, 0, none⟩ sv1) b mr lv sv1 st es dp :=
  ⟨h.bel.setCell h.hb _, by rw [setCell_heap b 0 sv1 h.cells b, if_pos rfl]; rfl, h.row.move fun k hk => by rw [setCell_heap b 0 sv1 h.cells k, if_neg (h.hr k hk).2.1], h.map.move (by rw [setCell_heap b 0 sv1 h.cells mr, if_neg (Ne.symm h.ne)]), h.hb, h.hm, h.hr, h.ne⟩
/-- The map has turned. -/
theorem Wk.turn {w1 : World} {es1 : Es} (h : Wk W w b mr lv sv st es dp) (hf : MapF w1 mr es1) (ht : w.mapTurned w1 mr) : Wk W w1 b mr lv sv st es1 dp := by
  have hg := ht.grown
  have hbl := heap_lt h.cells
  exact ⟨h.bel.grown hg h.bel.size fun k hk => by cases hk; exact h.hm, (hg.block b hbl (fun e => h.ne (Option.some.inj e))).trans h.cells, h.row.move fun k hk => hg.block k (h.row.lt hk) (fun e => (h.hr k hk).2.2 (Option.some.inj e)), hf, h.hb, h.hm, h.hr, h.ne⟩
theorem Row.cutTo {w : World} {e : Nat} {B : Option Addr} {n c m : Nat} {xs : List Value} (h : Row w e 1 (.slice B n c) xs) (hm : m ≤ n) : Row w e 1 (.slice B m c) (xs.take m) := by
  obtain ⟨A, q, c', e1, h1, hA, h2, h3, hr⟩ := h
  cases e1
  refine ⟨B, m, c, rfl, by rw [List.length_take]; omega, hA, by omega, h3, fun hc => ?_⟩
  obtain ⟨g, cur, q1, q2, q3, q4⟩ := hr hc
  exact ⟨g, cur, q1, q2, q3, by rw [← q4, List.take_take, Nat.mul_one, Nat.mul_one, Nat.min_eq_left hm]⟩
theorem rowBlock_len (B : Option Addr) (n m c : Nat) : rowBlock (.slice B n c) = rowBlock (.slice B m c) := by cases B <;> rfl
set_option maxHeartbeats 1000000 in
theorem cpush_c (at_ : Int) (hl : st.length ≤ 1000000) (h : Wk W w b mr lv sv st es dp) :
    Calls Tryz.prog 263 #[.pointer (some ⟨b, 0, none⟩), .int .i64 at_] w fun e w' => e = .returned (.tuple #[]) ∧ ∃ sv', Wk W w' b mr lv sv' (st ++ [at_]) es dp := by
  have c0 := h.c0
  obtain ⟨A, n, c, rfl, hnc, hcm, hxl, _⟩ := h.row.rd
  have H := Lib.hid h
  have H1 := Lib.hid (h.still ((Below.refl w.heap.size w).alloc (Nat.le_refl _) (.cells #[.int .i64 at_] 3)))
  have RD := Lib.hid (show Rd (w.alloc (.cells #[.int .i64 at_] 3)) 1 (some ⟨w.heap.size, 0, none⟩) 1 [.int .i64 at_] from ⟨rfl, fun _ => ⟨_, rfl, rfl, fun j u hu => by
    cases j with
    | zero => simp at hu; subst hu; simp [Addr.add]
    | succ j => simp at hu⟩⟩)
  have HN := Lib.hid (show ((ints .i64 st).length + 1) * 8 ≤ 140737488355328 by rw [ints_len]; omega)
  have HO := Lib.hid (show ∀ u ∈ [Value.int .i64 at_], u.oneCell' = true by simp [Value.oneCell'])
  clear hnc hcm hxl h hl
  rename_i hrd
  clear hrd
  go_enter Tryz.func263, Tryz.ntmps263
  go_wp2_with (at_builtin; refine wpList_append_row (by rfl) _ _ _ (by rfl) 3 1 (.int .i64 0) 8 Tryz.underlying296 infoInt rfl (by omega) (by omega) (.slice A n c) (ints .i64 st) (by rfl) (some ⟨w.heap.size, 0, none⟩) 1 1 [.int .i64 at_] (by rfl) H1.out.row RD.out HO.out HN.out ?_; intro B1 m1 c3 w1 hr1 hg1 ha1; have hr2 := hr1.out; rw [show ints .i64 st ++ [.int .i64 at_] = ints .i64 (st ++ [at_]) by simp [ints]] at hr2; have G := H1.out.grow hr2 hg1.out ha1.out; have g0 := G.c0; have gz := G.fz 0; have HG := Lib.hid G; clear G hr2 hr1 hg1 ha1 c0)
  go_end0
  exact ⟨rfl, _, HG.out.put⟩
end Go.Proofs.YtjbdldekllffkaaGreatDoor
/- ctrl's pop and top. -/
set_option linter.unusedVariables false
set_option linter.unusedSimpArgs false
namespace Go.Proofs.YtjbdldekllffkaaGreatDoor
open Go.RowKit Go.Sep Go.St
variable {W w : World} {b mr : Nat} {lv sv : Value} {st : List Int} {es : Es} {dp : Int}
theorem Row.cellAt {w : World} {e : Nat} {A : Option Addr} {n c : Nat} {xs : List Value} (h : Row w e 1 (.slice A n c) xs) (j : Nat) (v : Value) (hj : xs[j]? = some v) : ∃ g, A = some ⟨g, 0, none⟩ ∧ w.cell? ⟨g, j, none⟩ = some v := by
  obtain ⟨A', q, c', e1, h1, hA, h2, h3, hr⟩ := h
  cases e1
  have hl := (List.getElem?_eq_some_iff.1 hj).1
  obtain ⟨g, cur, rfl, q2, q3, q4⟩ := hr (by omega)
  refine ⟨g, rfl, ?_⟩
  rw [← q4, List.getElem?_take] at hj
  split at hj
  · simp [World.cell?, q2]; simpa using hj
  · cases hj
set_option maxHeartbeats 1000000 in
theorem cpop_none (h : Wk W w b mr lv sv [] es dp) :
    Calls Tryz.prog 267 #[.pointer (some ⟨b, 0, none⟩)] w fun e w' => e = .returned (.tuple #[.int .i64 0, .bool false]) ∧ Wk W w' b mr lv sv [] es dp := by
  have c0 := h.c0
  obtain ⟨A, n, c, rfl, hnc, hcm, hxl, hrd⟩ := h.row.rd
  obtain rfl : n = 0 := by simp [ints] at hxl; omega
  have H := Lib.hid h
  have q : IntKind.i64.wrap (-1) = -1 := by decide
  clear hnc hcm hxl h hrd
  go_enter Tryz.func267, Tryz.ntmps267
  go_wp2
  go_ret2
  exact ⟨rfl, H.out⟩
set_option maxHeartbeats 1000000 in
theorem cpop_some (k : Int) (hl : st.length ≤ 1000000) (h : Wk W w b mr lv sv (st ++ [k]) es dp) :
    Calls Tryz.prog 267 #[.pointer (some ⟨b, 0, none⟩)] w fun e w' => e = .returned (.tuple #[.int .i64 k, .bool true]) ∧ ∃ sv', Wk W w' b mr lv sv' st es dp := by
  have c0 := h.c0
  have z0 := h.fz 0
  obtain ⟨A, n, c, rfl, hnc, hcm, hxl, hrd⟩ := h.row.rd
  obtain rfl : n = st.length + 1 := by simp [ints] at hxl; omega
  obtain ⟨g, rfl, ck⟩ := Row.cellAt h.row st.length (.int .i64 k) (by simp [ints])
  have hcut := Row.cutTo h.row (m := st.length) (by omega)
  rw [show (ints .i64 (st ++ [k])).take st.length = ints .i64 st by simp [ints]] at hcut
  have H := Lib.hid (h.set0 hcut (fun k hk => h.hr k (by rw [rowBlock_len _ _ st.length]; exact hk)))
  have q0 : ((st.length + 1 : Nat) : Int) - 1 = (st.length : Int) := by omega
  have q : IntKind.i64.wrap (((st.length + 1 : Nat) : Int) - 1) = (st.length : Int) := by rw [q0]; exact IntWalk.i64_in _ (by omega)
  have q2 : IntKind.i64.wrap ((st.length : Int)) = (st.length : Int) := IntWalk.i64_in _ (by omega)
  have d0 : decide ((st.length : Int) < 0) = false := decide_eq_false (by omega)
  have d1 : st.length ≤ c := by omega
  have i1 : (0 : Int) ≤ st.length := by omega
  have i2 : (st.length : Int) < ((st.length + 1 : Nat) : Int) := by omega
  have i3 : (st.length : Int) ≤ (c : Int) := by omega
  clear hcm hxl h hrd hcut hnc
  go_enter Tryz.func267, Tryz.ntmps267
  go_wp2
  go_ret2
  exact ⟨rfl, _, H.out⟩
set_option maxHeartbeats 1000000 in
theorem ctop_none (h : Wk W w b mr lv sv [] es dp) :
    Calls Tryz.prog 266 #[.pointer (some ⟨b, 0, none⟩)] w fun e w' => e = .returned (.tuple #[.int .i64 0, .bool false]) ∧ Wk W w' b mr lv sv [] es dp := by
  have c0 := h.c0
  obtain ⟨A, n, c, rfl, hnc, hcm, hxl, hrd⟩ := h.row.rd
  obtain rfl : n = 0 := by simp [ints] at hxl; omega
  have H := Lib.hid h
  clear hnc hcm hxl h hrd
  go_enter Tryz.func266, Tryz.ntmps266
  go_wp2
  go_ret2
  exact ⟨rfl, H.out⟩
set_option maxHeartbeats 1000000 in
theorem ctop_some (k : Int) (hl : st.length ≤ 1000000) (h : Wk W w b mr lv sv (st ++ [k]) es dp) :
    Calls Tryz.prog 266 #[.pointer (some ⟨b, 0, none⟩)] w fun e w' => e = .returned (.tuple #[.int .i64 k, .bool true]) ∧ Wk W w' b mr lv sv (st ++ [k]) es dp := by
  have c0 := h.c0
  have z0 := h.fz 0
  have hd := fun n => h.drewN n
  obtain ⟨A, n, c, rfl, hnc, hcm, hxl, hrd⟩ := h.row.rd
  obtain rfl : n = st.length + 1 := by simp [ints] at hxl; omega
  obtain ⟨g, rfl, ck⟩ := Row.cellAt h.row st.length (.int .i64 k) (by simp [ints])
  have H := Lib.hid hd
  have q0 : ((st.length + 1 : Nat) : Int) - 1 = (st.length : Int) := by omega
  have q : IntKind.i64.wrap (((st.length + 1 : Nat) : Int) - 1) = (st.length : Int) := by rw [q0]; exact IntWalk.i64_in _ (by omega)
  have q2 : IntKind.i64.wrap ((st.length : Int)) = (st.length : Int) := IntWalk.i64_in _ (by omega)
  have d0 : decide (((st.length + 1 : Nat) : Int) = 0) = false := decide_eq_false (by omega)
  have d2 : (((st.length + 1 : Nat) : Int) == 0) = false := beq_eq_false_iff_ne.2 (by omega)
  have d3 : ((st.length + 1 : Nat) == 0) = false := beq_eq_false_iff_ne.2 (by omega)
  clear hcm hxl h hrd hnc hd
  go_enter Tryz.func266, Tryz.ntmps266
  go_wp2_with fail
  go_quiet (fail)
  go_wp2
  go_ret2
  exact ⟨rfl, H.out _⟩
end Go.Proofs.YtjbdldekllffkaaGreatDoor
/- ctrl's half and closes. -/
set_option linter.unusedVariables false
set_option linter.unusedSimpArgs false
namespace Go.Proofs.YtjbdldekllffkaaGreatDoor
open Go.RowKit Go.Sep Go.St
variable {W w : World} {b mr : Nat} {lv sv : Value} {st : List Int} {es : Es} {dp : Int}
/-- The op of instruction k. -/
def opA (l : List Ins) (k : Int) : Int := match l[k.toNat]? with
  | some x => x.op
  | none => -1
def stepE (l : List Ins) (at_ : Nat) (s : List Int × Es) : Option (List Int × Es) :=
  let op := opA l at_
  if op = 2 ∨ op = 3 ∨ op = 4 then some (s.1 ++ [(at_ : Int)], setE s.2 at_ (-1, 0))
  else if op = 5 then match s.1.getLast? with
    | some k => if opA l k = 4 ∧ ((getE s.2 k).getD (0, 0)).1 = -1 then some (s.1, setE s.2 k (at_, 0)) else none
    | none => none
  else if op = 11 then match s.1.getLast? with
    | some k => some (s.1.dropLast, setE s.2 k (((getE s.2 k).getD (0, 0)).1, at_))
    | none => if at_ + 1 = l.length then some s else none
  else some s
def runE (l : List Ins) : Nat → Option (List Int × Es)
  | 0 => some ([], [])
  | n + 1 => match runE l n with
    | some s => stepE l n s
    | none => none
theorem set_le (k : Int) (v : Int × Int) (es : Es) : (setE es k v).length ≤ es.length + 1 := by rw [set_len]; split <;> omega
theorem stepE_inv (l : List Ins) (at_ : Nat) (s s' : List Int × Es) (h : stepE l at_ s = some s') (hk : ∀ k ∈ s.1, 0 ≤ k ∧ k < (at_ : Int)) (hl : s.1.length ≤ at_) (he : s.2.length ≤ at_) :
    (∀ k ∈ s'.1, 0 ≤ k ∧ k < ((at_ + 1 : Nat) : Int)) ∧ s'.1.length ≤ at_ + 1 ∧ s'.2.length ≤ at_ + 1 := by
  have hs : ∀ k v, (setE s.2 k v).length ≤ at_ + 1 := fun k v => Nat.le_trans (set_le k v s.2) (by omega)
  have w : ∀ k ∈ s.1, 0 ≤ k ∧ k < ((at_ + 1 : Nat) : Int) := fun k h => ⟨(hk k h).1, by have := (hk k h).2; omega⟩
  unfold stepE at h
  simp only at h
  split at h
  · cases h
    refine ⟨fun k hkm => ?_, by simp; omega, hs _ _⟩
    rcases List.mem_append.1 hkm with h | h
    · exact w k h
    · rw [List.mem_singleton] at h
      omega
  split at h
  · split at h
    · split at h
      · cases h; exact ⟨w, by simp; omega, hs _ _⟩
      · cases h
    · cases h
  split at h
  · split at h
    · cases h
      exact ⟨fun k h => w k ((List.dropLast_sublist s.1).subset h), by simp; omega, hs _ _⟩
    · split at h
      · cases h; exact ⟨w, by omega, by omega⟩
      · cases h
  · cases h; exact ⟨w, by omega, by omega⟩
theorem runE_inv (l : List Ins) : ∀ (n : Nat) (s : List Int × Es), runE l n = some s → (∀ k ∈ s.1, 0 ≤ k ∧ k < (n : Int)) ∧ s.1.length ≤ n ∧ s.2.length ≤ n
  | 0, s, h => by
    cases h
    exact ⟨fun k h => by simp at h, by simp, by simp⟩
  | n + 1, s, h => by
    unfold runE at h
    cases hr : runE l n with
    | none => rw [hr] at h; cases h
    | some s0 =>
      rw [hr] at h
      obtain ⟨a, b, c⟩ := runE_inv l n s0 hr
      exact stepE_inv l n s0 s h a b c
structure LInv (W : World) (lv : Value) (l : List Ins) (st : List Int) (es : Es) : Prop where
  rd : RdL W (fun b => b < W.heap.size) 6 (InsR W (fun b => b < W.heap.size)) lv l
  top : ∀ k ∈ st, 0 ≤ k ∧ k < l.length
  len : st.length ≤ l.length
  es : es.length ≤ l.length
  ll : l.length ≤ 100000
theorem ins_cell {W w : World} {lv : Value} {l : List Ins} {st : List Int} {es : Es} (h : LInv W lv l st es) (hb : Below W.heap.size W w) (k : Int) (h0 : 0 ≤ k) (hk : k < l.length) :
    ∃ g o c, lv = .slice (some ⟨g, o, none⟩) l.length c ∧ l.length ≤ c ∧ w.cell? ⟨g, o + k.toNat * 6, none⟩ = some (.int .i64 (opA l k)) := by
  obtain ⟨A, c, rfl, h1, h2, h3, _⟩ := h.rd
  obtain ⟨g, o, rfl, hg, hc⟩ := h3 (by omega)
  have hx : l[k.toNat]? = some l[k.toNat] := List.getElem?_eq_getElem (by omega)
  obtain ⟨cs, g1, ⟨lv2, rfl, _⟩, g3⟩ := hc k.toNat _ hx
  have := g3 0 _ rfl
  refine ⟨g, o, c, rfl, h1, ?_⟩
  rw [hb.cell hg]
  simpa [opA, hx] using this
theorem field0 (w : World) (a c : Int) : (Instr.field 227 (.agg #[.int .i64 a, .int .i64 c]) 0).run Tryz.prog w = .ok (.int .i64 a) w := by
  simp [Instr.field, asAgg, go_sem]
set_option maxHeartbeats 2000000 in
theorem half_yes (k : Int) (l : List Ins) (at_ : Int) (st0 : List Int) (h : Wk W w b mr lv sv (st0 ++ [k]) es dp) (hI : LInv W lv l (st0 ++ [k]) es) (h4 : opA l k = 4) (he : ((getE es k).getD (0, 0)).1 = -1) :
    Calls Tryz.prog 264 #[.pointer (some ⟨b, 0, none⟩), .int .i64 at_] w fun e w' => e = .returned (.bool true) ∧ Wk W w' b mr lv sv (st0 ++ [k]) (setE es k (at_, 0)) dp := by
  have hk := hI.top k (by simp)
  have hlen := hI.len
  have hll := hI.ll
  have hel := hI.es
  rw [List.length_append, List.length_singleton] at hlen
  have hK : I64 k := ⟨by omega, by omega⟩
  have HT := Lib.hid (ctop_some k (by omega) h)
  have HS := Lib.hid (show ∀ w', Wk W w' b mr lv sv (st0 ++ [k]) es dp → ∃ g o c, lv = .slice (some ⟨g, o, none⟩) l.length c ∧ w'.cell? ⟨g, o + k.toNat * 6, none⟩ = some (.int .i64 4) from fun w' q => by
    obtain ⟨g, o, c, e, _, c4⟩ := ins_cell hI q.bel k hk.1 hk.2
    exact ⟨g, o, c, e, by rw [← h4]; exact c4⟩)
  have HL := Lib.hid (And.intro (show ∀ w', Wk W w' b mr lv sv (st0 ++ [k]) es dp → (Instr.lookup 195 (.map (some mr)) (.int .i64 k) false).run Tryz.prog w' = .ok (.agg #[.int .i64 (-1), .int .i64 ((getE es k).getD (0, 0)).2]) w' from fun w' q => by
    have := q.map.look k hK
    rwa [he] at this) (show ∀ w', Wk W w' b mr lv sv (st0 ++ [k]) es dp → ∃ w2, (Instr.mapUpdate 195 (.map (some mr)) (.int .i64 k) (.agg #[.int .i64 at_, .int .i64 0])).run Tryz.prog w' = .ok () w2 ∧ Wk W w2 b mr lv sv (st0 ++ [k]) (setE es k (at_, 0)) dp from fun w' q => by
    obtain ⟨w2, hr, hf, ht⟩ := q.map.store k hK (at_, 0) (by omega)
    exact ⟨w2, hr, q.turn hf ht⟩))
  have HI := Lib.hid (And.intro hk hll)
  clear h hI h4 he hlen hll hel hK
  go_enter Tryz.func264, Tryz.ntmps264
  go_wp2_with fail
  refine HT.out.mono ?_
  rintro e w1 ⟨rfl, h1⟩
  obtain ⟨g, o, c, rfl, cop⟩ := HS.out _ h1
  have c1 := h1.c1
  have c2 := h1.c2
  have lk := HL.out.1 _ h1
  obtain ⟨w2, hrun, h2⟩ := HL.out.2 _ h1
  have H2 := Lib.hid h2
  have fl := field0
  clear h1 h2
  generalize ((getE es k).getD (0, 0)).2 = z at *
  obtain ⟨n, rfl⟩ : ∃ n : Nat, k = n := ⟨k.toNat, by omega⟩
  obtain ⟨⟨hk0, hk1⟩, hll⟩ := HI.out
  rw [Int.toNat_natCast] at cop
  clear HI HS HL HT
  go_wp2
  go_ret
  exact ⟨rfl, H2.out⟩
set_option maxHeartbeats 2000000 in
theorem closes_yes (k : Int) (l : List Ins) (at_ : Int) (st0 : List Int) (h : Wk W w b mr lv sv (st0 ++ [k]) es dp) (hI : LInv W lv l (st0 ++ [k]) es) :
    Calls Tryz.prog 265 #[.pointer (some ⟨b, 0, none⟩), .int .i64 at_] w fun e w' => e = .returned (.bool true) ∧ ∃ sv', Wk W w' b mr lv sv' st0 (setE es k (((getE es k).getD (0, 0)).1, at_)) dp := by
  have hk := hI.top k (by simp)
  have hlen := hI.len
  have hll := hI.ll
  have hel := hI.es
  rw [List.length_append, List.length_singleton] at hlen
  have hK : I64 k := ⟨by omega, by omega⟩
  have HT := Lib.hid (cpop_some k (by omega) h)
  have HL := Lib.hid (And.intro (show ∀ w' sv, Wk W w' b mr lv sv st0 es dp → (Instr.lookup 195 (.map (some mr)) (.int .i64 k) false).run Tryz.prog w' = .ok (.agg #[.int .i64 ((getE es k).getD (0, 0)).1, .int .i64 ((getE es k).getD (0, 0)).2]) w' from fun w' sv q => q.map.look k hK) (show ∀ w' sv, Wk W w' b mr lv sv st0 es dp → ∃ w2, (Instr.mapUpdate 195 (.map (some mr)) (.int .i64 k) (.agg #[.int .i64 ((getE es k).getD (0, 0)).1, .int .i64 at_])).run Tryz.prog w' = .ok () w2 ∧ Wk W w2 b mr lv sv st0 (setE es k (((getE es k).getD (0, 0)).1, at_)) dp from fun w' sv q => by
    obtain ⟨w2, hr, hf, ht⟩ := q.map.store k hK (((getE es k).getD (0, 0)).1, at_) (by omega)
    exact ⟨w2, hr, q.turn hf ht⟩))
  have HI := Lib.hid (And.intro hk hll)
  clear h hI hlen hll hel hK hk
  have fl := field0
  generalize ((getE es k).getD (0, 0)).2 = z2 at *
  generalize ((getE es k).getD (0, 0)).1 = z at *
  go_enter Tryz.func265, Tryz.ntmps265
  go_wp2_with fail
  refine HT.out.mono ?_
  rintro e w1 ⟨rfl, sv1, h1⟩
  have c2 := h1.c2
  have lk := HL.out.1 _ _ h1.drew
  obtain ⟨w2, hrun, h2⟩ := HL.out.2 _ _ h1.drew
  have H2 := Lib.hid h2
  clear h1 h2
  clear HI HL HT
  go_wp2_with fail
  refine wp_region_z (fun w' => w'.cell? ⟨b, 2, none⟩ = some (.map (some mr)) ∧ (Instr.lookup 195 (.map (some mr)) (.int .i64 k) false).run Tryz.prog w' = .ok (.agg #[.int .i64 z, .int .i64 z2]) w') (fun j => j == 14) (by kernel_rfl) ?_ (fun hHeld => ?_)
  · exact ⟨c2, lk⟩
  (refine wpZ_take (i := 0) (oi := ⟨some 24, .move (.tmp 0), 293, _, _, none⟩) (v := ?_) rfl (by kernel_rfl) (fun _ _ _ h => h) (by assumption) (Or.inl ⟨by rfl, ?_⟩) ?_; rotate_left 1; · ((intro w hSw; (try dsimp only at hSw); go_split_ands; go_simp) <;> (try with_reducible rfl)))
  try simp only [Act.put, List.setIfInBounds_toArray, List.set_cons_zero, List.set_cons_succ]
  (refine wpZ_take (i := 1) (oi := ⟨some 25, .nilCheck (.tmp 24), 0, _, _, none⟩) (v := ?_) rfl (by kernel_rfl) (fun _ _ _ h => h) (by assumption) (Or.inl ⟨by rfl, ?_⟩) ?_; rotate_left 1; · ((intro w hSw; (try dsimp only at hSw); go_split_ands; go_simp) <;> (try with_reducible rfl)))
  try simp only [Act.put, List.setIfInBounds_toArray, List.set_cons_zero, List.set_cons_succ]
  (refine wpZ_take (i := 2) (oi := ⟨some 26, .fieldAddr 298 (.tmp 25) 2, 0, _, _, none⟩) (v := ?_) rfl (by kernel_rfl) (fun _ _ _ h => h) (by assumption) (Or.inl ⟨by rfl, ?_⟩) ?_; rotate_left 1; · ((intro w hSw; (try dsimp only at hSw); go_split_ands; go_simp) <;> (try with_reducible rfl)))
  try simp only [Act.put, List.setIfInBounds_toArray, List.set_cons_zero, List.set_cons_succ]
  (refine wpZ_take (i := 3) (oi := ⟨some 27, .load 195 (.tmp 26), 195, _, _, none⟩) (v := ?_) rfl (by kernel_rfl) (fun _ _ _ h => h) (by assumption) (Or.inl ⟨by rfl, ?_⟩) ?_; rotate_left 1; · ((intro w hSw; (try dsimp only at hSw); go_split_ands; go_simp) <;> (try with_reducible rfl)))
  try simp only [Act.put, List.setIfInBounds_toArray, List.set_cons_zero, List.set_cons_succ]
  (refine wpZ_take (i := 4) (oi := ⟨some 28, .move (.tmp 5), 3, _, _, none⟩) (v := ?_) rfl (by kernel_rfl) (fun _ _ _ h => h) (by assumption) (Or.inl ⟨by rfl, ?_⟩) ?_; rotate_left 1; · ((intro w hSw; (try dsimp only at hSw); go_split_ands; go_simp) <;> (try with_reducible rfl)))
  try simp only [Act.put, List.setIfInBounds_toArray, List.set_cons_zero, List.set_cons_succ]
  (refine wpZ_take (i := 5) (oi := ⟨some 29, .move (.tmp 0), 293, _, _, none⟩) (v := ?_) rfl (by kernel_rfl) (fun _ _ _ h => h) (by assumption) (Or.inl ⟨by rfl, ?_⟩) ?_; rotate_left 1; · ((intro w hSw; (try dsimp only at hSw); go_split_ands; go_simp) <;> (try with_reducible rfl)))
  try simp only [Act.put, List.setIfInBounds_toArray, List.set_cons_zero, List.set_cons_succ]
  (refine wpZ_take (i := 6) (oi := ⟨some 30, .nilCheck (.tmp 29), 0, _, _, none⟩) (v := ?_) rfl (by kernel_rfl) (fun _ _ _ h => h) (by assumption) (Or.inl ⟨by rfl, ?_⟩) ?_; rotate_left 1; · ((intro w hSw; (try dsimp only at hSw); go_split_ands; go_simp) <;> (try with_reducible rfl)))
  try simp only [Act.put, List.setIfInBounds_toArray, List.set_cons_zero, List.set_cons_succ]
  (refine wpZ_take (i := 7) (oi := ⟨some 31, .fieldAddr 298 (.tmp 30) 2, 0, _, _, none⟩) (v := ?_) rfl (by kernel_rfl) (fun _ _ _ h => h) (by assumption) (Or.inl ⟨by rfl, ?_⟩) ?_; rotate_left 1; · ((intro w hSw; (try dsimp only at hSw); go_split_ands; go_simp) <;> (try with_reducible rfl)))
  try simp only [Act.put, List.setIfInBounds_toArray, List.set_cons_zero, List.set_cons_succ]
  (refine wpZ_take (i := 8) (oi := ⟨some 32, .load 195 (.tmp 31), 195, _, _, none⟩) (v := ?_) rfl (by kernel_rfl) (fun _ _ _ h => h) (by assumption) (Or.inl ⟨by rfl, ?_⟩) ?_; rotate_left 1; · ((intro w hSw; (try dsimp only at hSw); go_split_ands; go_simp) <;> (try with_reducible rfl)))
  try simp only [Act.put, List.setIfInBounds_toArray, List.set_cons_zero, List.set_cons_succ]
  (refine wpZ_take (i := 9) (oi := ⟨some 33, .move (.tmp 5), 3, _, _, none⟩) (v := ?_) rfl (by kernel_rfl) (fun _ _ _ h => h) (by assumption) (Or.inl ⟨by rfl, ?_⟩) ?_; rotate_left 1; · ((intro w hSw; (try dsimp only at hSw); go_split_ands; go_simp) <;> (try with_reducible rfl)))
  try simp only [Act.put, List.setIfInBounds_toArray, List.set_cons_zero, List.set_cons_succ]
  (refine wpZ_take (i := 10) (oi := ⟨some 34, .lookup 195 (.tmp 32) (.tmp 33) false, 227, _, _, none⟩) (v := ?_) rfl (by kernel_rfl) (fun _ _ _ h => h) (by assumption) (Or.inl ⟨by rfl, ?_⟩) ?_; rotate_left 1; · ((intro w hSw; (try dsimp only at hSw); go_split_ands; go_simp) <;> (try with_reducible rfl)))
  try simp only [Act.put, List.setIfInBounds_toArray, List.set_cons_zero, List.set_cons_succ]
  (refine wpZ_take (i := 11) (oi := ⟨some 35, .field 227 (.tmp 34) 0, 3, _, _, none⟩) (v := ?_) rfl (by kernel_rfl) (fun _ _ _ h => h) (by assumption) (Or.inl ⟨by rfl, ?_⟩) ?_; rotate_left 1; · ((intro w hSw; (try dsimp only at hSw); go_split_ands; go_simp) <;> (try with_reducible rfl)))
  try simp only [Act.put, List.setIfInBounds_toArray, List.set_cons_zero, List.set_cons_succ]
  (refine wpZ_take (i := 12) (oi := ⟨some 36, .move (.tmp 1), 3, _, _, none⟩) (v := ?_) rfl (by kernel_rfl) (fun _ _ _ h => h) (by assumption) (Or.inl ⟨by rfl, ?_⟩) ?_; rotate_left 1; · ((intro w hSw; (try dsimp only at hSw); go_split_ands; go_simp) <;> (try with_reducible rfl)))
  try simp only [Act.put, List.setIfInBounds_toArray, List.set_cons_zero, List.set_cons_succ]
  (refine wpZ_take (i := 13) (oi := ⟨some 37, .build 227 #[(0, .tmp 35), (1, .tmp 36)], 227, _, _, none⟩) (v := ?_) rfl (by kernel_rfl) (fun _ _ _ h => h) (by assumption) (Or.inl ⟨by rfl, ?_⟩) ?_; rotate_left 1; · ((intro w hSw; (try dsimp only at hSw); go_split_ands; go_simp) <;> (try with_reducible rfl)))
  try simp only [Act.put, List.setIfInBounds_toArray, List.set_cons_zero, List.set_cons_succ]
  refine wpZ_one (i := 14) (oi := ⟨none, .mapUpdate 195 (.tmp 27) (.tmp 28) (.tmp 37), 0, _, _, none⟩) rfl (by kernel_rfl) (fun K hK => ?_)
  go_simp
  refine hK.out _ _ (fun h => by simp at h) (fun _ => ?_)
  clear hK K
  try simp only [Act.put, List.setIfInBounds_toArray, List.set_cons_zero, List.set_cons_succ]
  refine wpZ_done (by kernel_rfl) ?_ _
  go_wp2
  go_ret
  exact ⟨rfl, _, H2.out⟩
set_option maxHeartbeats 2000000 in
theorem closes_last (l : List Ins) (at_ : Int) (ha : at_ + 1 = l.length) (h : Wk W w b mr lv sv [] es dp) (hI : LInv W lv l [] es) :
    Calls Tryz.prog 265 #[.pointer (some ⟨b, 0, none⟩), .int .i64 at_] w fun e w' => e = .returned (.bool true) ∧ Wk W w' b mr lv sv [] es dp := by
  have hll := hI.ll
  have HT := Lib.hid (cpop_none h)
  obtain ⟨A, c, rfl, _, _, _, _⟩ := hI.rd
  have q1 : IntKind.i64.wrap ((l.length : Int) - 1) = at_ := by rw [IntWalk.i64_in _ (by omega)]; omega
  have q2 : ((l.length : Int) - 1) = at_ := by omega
  clear h hI ha
  go_enter Tryz.func265, Tryz.ntmps265
  go_wp2_with fail
  refine HT.out.mono ?_
  rintro e w1 ⟨rfl, h1⟩
  have c1 := h1.c1
  have H2 := Lib.hid h1
  clear h1
  go_wp2
  go_ret
  exact ⟨by simp, H2.out⟩
end Go.Proofs.YtjbdldekllffkaaGreatDoor
/- ctrl's one. -/
set_option linter.unusedVariables false
set_option linter.unusedSimpArgs false
namespace Go.Proofs.YtjbdldekllffkaaGreatDoor
open Go.RowKit Go.Sep Go.St
variable {W w : World} {b mr : Nat} {lv sv : Value} {st : List Int} {es : Es} {dp : Int}
def OneOk (W : World) (b mr : Nat) (lv : Value) (s' : List Int × Es) (e : Ending) (w' : World) : Prop := e = .returned (.bool true) ∧ ∃ sv' dp', (-1000000 ≤ dp' ∧ dp' ≤ 1000000) ∧ Wk W w' b mr lv sv' s'.1 s'.2 dp'
set_option maxRecDepth 100000 in
set_option maxHeartbeats 4000000 in
theorem cone_c (l : List Ins) (n : Nat) (hn : n < l.length) (s' : List Int × Es) (h : Wk W w b mr lv sv st es dp) (hI : LInv W lv l st es) (hs : stepE l n (st, es) = some s') (hn2 : st.length ≤ n ∧ es.length ≤ n) (hdp : -1000000 ≤ dp ∧ dp ≤ 1000000) :
    Calls Tryz.prog 261 #[.pointer (some ⟨b, 0, none⟩), .int .i64 (n : Int)] w (OneOk W b mr lv s') := by
  have hll := hI.ll
  obtain ⟨g, o, c, rfl, _, cop⟩ := ins_cell hI h.bel (n : Int) (by omega) (by omega)
  rw [Int.toNat_natCast] at cop
  have c1 := h.c1
  have hN : I64 (n : Int) := ⟨by omega, by omega⟩
  have HB := Lib.hid (And.intro hll (And.intro hn hdp))
  have i1 : (n : Int) < (l.length : Int) := by omega
  unfold stepE at hs
  simp only at hs
  generalize opA l n = op at cop hs
  by_cases hA : op = 2 ∨ op = 3 ∨ op = 4
  · rw [if_pos hA] at hs
    cases hs
    have HP := Lib.hid (cpush_c (n : Int) (by have := hI.len; omega) h)
    have HS := Lib.hid (show ∀ w' sv, Wk W w' b mr (.slice (some ⟨g, o, none⟩) l.length c) sv (st ++ [(n : Int)]) es dp → ∃ w2, (Instr.mapUpdate 195 (.map (some mr)) (.int .i64 (n : Int)) (.agg #[.int .i64 (-1), .int .i64 0])).run Tryz.prog w' = .ok () w2 ∧ Wk W w2 b mr (.slice (some ⟨g, o, none⟩) l.length c) sv (st ++ [(n : Int)]) (setE es (n : Int) (-1, 0)) dp from fun w' sv q => by
      obtain ⟨w2, hr, hf, ht⟩ := q.map.store (n : Int) hN (-1, 0) (by have := hn2.2; omega)
      exact ⟨w2, hr, q.turn hf ht⟩)
    have HL := Lib.hid (show (st ++ [(n : Int)]).length = st.length + 1 ∧ st.length ≤ n from ⟨by simp, hn2.1⟩)
    clear h hI hn2 hN hll hn hdp
    rcases hA with rfl | rfl | rfl
    all_goals
      go_enter Tryz.func261, Tryz.ntmps261
      go_wp2_with fail
      refine HP.out.mono ?_
      rintro e w1 ⟨rfl, sv1, h1⟩
      obtain ⟨w2, hrun, h2⟩ := HS.out _ _ h1
      have d2 := h1.c2
      have e3 : w2.drew.cell? ⟨b, 3, none⟩ = some (.int .i64 dp) := h2.c3
      have e0 : w2.drew.cell? ⟨b, 0, none⟩ = some sv1 := h2.c0
      obtain ⟨A1, m1, k1, rfl, _, _, hx, _⟩ := h2.row.rd
      have hm1 : m1 = st.length + 1 := by rw [ints_len, HL.out.1] at hx; omega
      subst hm1
      have z3 : w2.drew.frozen? ⟨b, 3, none⟩ = false := h2.fz 3
      obtain ⟨q, hq, hq2⟩ : ∃ q : Int, (if ((st.length + 1 : Nat) : Int) < dp then dp else ((st.length + 1 : Nat) : Int)) = q ∧ (-1000000 ≤ q ∧ q ≤ 1000000) := ⟨_, rfl, by have := HB.out; have := HL.out.2; split <;> omega⟩
      obtain ⟨q', hq', hq2'⟩ : ∃ q : Int, (if dp < ((st.length + 1 : Nat) : Int) then ((st.length + 1 : Nat) : Int) else dp) = q ∧ (-1000000 ≤ q ∧ q ≤ 1000000) := ⟨_, rfl, by have := HB.out; have := HL.out.2; split <;> omega⟩
      have HQ := Lib.hid (And.intro hq2 hq2')
      have H2 := Lib.hid h2.drew
      clear h1 h2 cop c1 hq2 hq2'
      clear HP HS hx
      go_wp2_with fail
      refine wp_region_z (fun w' => w'.cell? ⟨b, 3, none⟩ = some (.int .i64 dp) ∧ w'.cell? ⟨b, 0, none⟩ = some (.slice A1 (st.length + 1) k1)) (fun j => j == 13) (by kernel_rfl) ?_ (fun hHeld => ?_)
      · exact ⟨e3, e0⟩
      (refine wpZ_take (i := 0) (oi := ⟨some 28, .move (.tmp 0), 293, _, _, none⟩) (v := ?_) rfl (by kernel_rfl) (fun _ _ _ h => h) (by assumption) (Or.inl ⟨by rfl, ?_⟩) ?_; rotate_left 1; · ((intro w hSw; (try dsimp only at hSw); go_split_ands; go_simp) <;> (try with_reducible rfl)))
      try simp only [Act.put, List.setIfInBounds_toArray, List.set_cons_zero, List.set_cons_succ]
      (refine wpZ_take (i := 1) (oi := ⟨some 29, .move (.tmp 0), 293, _, _, none⟩) (v := ?_) rfl (by kernel_rfl) (fun _ _ _ h => h) (by assumption) (Or.inl ⟨by rfl, ?_⟩) ?_; rotate_left 1; · ((intro w hSw; (try dsimp only at hSw); go_split_ands; go_simp) <;> (try with_reducible rfl)))
      try simp only [Act.put, List.setIfInBounds_toArray, List.set_cons_zero, List.set_cons_succ]
      (refine wpZ_take (i := 2) (oi := ⟨some 30, .nilCheck (.tmp 29), 0, _, _, none⟩) (v := ?_) rfl (by kernel_rfl) (fun _ _ _ h => h) (by assumption) (Or.inl ⟨by rfl, ?_⟩) ?_; rotate_left 1; · ((intro w hSw; (try dsimp only at hSw); go_split_ands; go_simp) <;> (try with_reducible rfl)))
      try simp only [Act.put, List.setIfInBounds_toArray, List.set_cons_zero, List.set_cons_succ]
      (refine wpZ_take (i := 3) (oi := ⟨some 31, .fieldAddr 298 (.tmp 30) 3, 0, _, _, none⟩) (v := ?_) rfl (by kernel_rfl) (fun _ _ _ h => h) (by assumption) (Or.inl ⟨by rfl, ?_⟩) ?_; rotate_left 1; · ((intro w hSw; (try dsimp only at hSw); go_split_ands; go_simp) <;> (try with_reducible rfl)))
      try simp only [Act.put, List.setIfInBounds_toArray, List.set_cons_zero, List.set_cons_succ]
      (refine wpZ_take (i := 4) (oi := ⟨some 32, .load 3 (.tmp 31), 3, _, _, none⟩) (v := ?_) rfl (by kernel_rfl) (fun _ _ _ h => h) (by assumption) (Or.inl ⟨by rfl, ?_⟩) ?_; rotate_left 1; · ((intro w hSw; (try dsimp only at hSw); go_split_ands; go_simp) <;> (try with_reducible rfl)))
      try simp only [Act.put, List.setIfInBounds_toArray, List.set_cons_zero, List.set_cons_succ]
      (refine wpZ_take (i := 5) (oi := ⟨some 33, .move (.tmp 0), 293, _, _, none⟩) (v := ?_) rfl (by kernel_rfl) (fun _ _ _ h => h) (by assumption) (Or.inl ⟨by rfl, ?_⟩) ?_; rotate_left 1; · ((intro w hSw; (try dsimp only at hSw); go_split_ands; go_simp) <;> (try with_reducible rfl)))
      try simp only [Act.put, List.setIfInBounds_toArray, List.set_cons_zero, List.set_cons_succ]
      (refine wpZ_take (i := 6) (oi := ⟨some 34, .nilCheck (.tmp 33), 0, _, _, none⟩) (v := ?_) rfl (by kernel_rfl) (fun _ _ _ h => h) (by assumption) (Or.inl ⟨by rfl, ?_⟩) ?_; rotate_left 1; · ((intro w hSw; (try dsimp only at hSw); go_split_ands; go_simp) <;> (try with_reducible rfl)))
      try simp only [Act.put, List.setIfInBounds_toArray, List.set_cons_zero, List.set_cons_succ]
      (refine wpZ_take (i := 7) (oi := ⟨some 35, .fieldAddr 298 (.tmp 34) 0, 0, _, _, none⟩) (v := ?_) rfl (by kernel_rfl) (fun _ _ _ h => h) (by assumption) (Or.inl ⟨by rfl, ?_⟩) ?_; rotate_left 1; · ((intro w hSw; (try dsimp only at hSw); go_split_ands; go_simp) <;> (try with_reducible rfl)))
      try simp only [Act.put, List.setIfInBounds_toArray, List.set_cons_zero, List.set_cons_succ]
      (refine wpZ_take (i := 8) (oi := ⟨some 36, .load 296 (.tmp 35), 296, _, _, none⟩) (v := ?_) rfl (by kernel_rfl) (fun _ _ _ h => h) (by assumption) (Or.inl ⟨by rfl, ?_⟩) ?_; rotate_left 1; · ((intro w hSw; (try dsimp only at hSw); go_split_ands; go_simp) <;> (try with_reducible rfl)))
      try simp only [Act.put, List.setIfInBounds_toArray, List.set_cons_zero, List.set_cons_succ]
      (refine wpZ_take (i := 9) (oi := ⟨some 37, .call { callee := .builtin .len, args := #[.tmp 36], argTypes := #[296] }, 3, _, _, none⟩) (v := ?_) rfl (by kernel_rfl) (fun _ _ _ h => h) (by assumption) (Or.inl ⟨by rfl, ?_⟩) ?_; rotate_left 1; · ((intro w hSw; (try dsimp only at hSw); go_split_ands; go_simp) <;> (try with_reducible rfl)))
      try simp only [Act.put, List.setIfInBounds_toArray, List.set_cons_zero, List.set_cons_succ]
      (refine wpZ_take (i := 10) (oi := ⟨some 38, .call { callee := .builtin .max, args := #[.tmp 32, .tmp 37], argTypes := #[3, 3] }, 3, _, _, none⟩) (v := ?_) rfl (by kernel_rfl) (fun _ _ _ h => h) (by assumption) (Or.inl ⟨by rfl, ?_⟩) ?_; rotate_left 1; · ((intro w hSw; (try dsimp only at hSw); go_split_ands; go_simp) <;> (try with_reducible rfl)))
      try simp only [Act.put, List.setIfInBounds_toArray, List.set_cons_zero, List.set_cons_succ]
      (refine wpZ_take (i := 11) (oi := ⟨some 39, .nilCheck (.tmp 28), 0, _, _, none⟩) (v := ?_) rfl (by kernel_rfl) (fun _ _ _ h => h) (by assumption) (Or.inl ⟨by rfl, ?_⟩) ?_; rotate_left 1; · ((intro w hSw; (try dsimp only at hSw); go_split_ands; go_simp) <;> (try with_reducible rfl)))
      try simp only [Act.put, List.setIfInBounds_toArray, List.set_cons_zero, List.set_cons_succ]
      (refine wpZ_take (i := 12) (oi := ⟨some 40, .fieldAddr 298 (.tmp 39) 3, 0, _, _, none⟩) (v := ?_) rfl (by kernel_rfl) (fun _ _ _ h => h) (by assumption) (Or.inl ⟨by rfl, ?_⟩) ?_; rotate_left 1; · ((intro w hSw; (try dsimp only at hSw); go_split_ands; go_simp) <;> (try with_reducible rfl)))
      try simp only [Act.put, List.setIfInBounds_toArray, List.set_cons_zero, List.set_cons_succ]
      refine wpZ_one (i := 13) (oi := ⟨none, .store 3 (.tmp 40) (.tmp 38), 0, _, _, none⟩) rfl (by kernel_rfl) (fun K hK => ?_)
      go_simp
      refine hK.out _ _ (fun h => by simp at h) (fun _ => ?_)
      clear hK K
      try simp only [Act.put, List.setIfInBounds_toArray, List.set_cons_zero, List.set_cons_succ]
      refine wpZ_done (by kernel_rfl) ?_ _
      go_wp2
      all_goals
        go_ret
        exact ⟨rfl, _, _, by have := HB.out; have := HL.out.2; omega, H2.out.set3 _⟩
  · rw [if_neg hA] at hs
    have n2 : (op == 2) = false := beq_eq_false_iff_ne.2 (fun e => hA (.inl e))
    have n3 : (op == 3) = false := beq_eq_false_iff_ne.2 (fun e => hA (.inr (.inl e)))
    have n4 : (op == 4) = false := beq_eq_false_iff_ne.2 (fun e => hA (.inr (.inr e)))
    have m2 : decide (op = 2) = false := decide_eq_false (fun e => hA (.inl e))
    have m3 : decide (op = 3) = false := decide_eq_false (fun e => hA (.inr (.inl e)))
    have m4 : decide (op = 4) = false := decide_eq_false (fun e => hA (.inr (.inr e)))
    by_cases h5 : op = 5
    · subst h5
      rw [if_pos rfl] at hs
      split at hs
      · rename_i k hk
        split at hs
        · rename_i hc
          cases hs
          obtain ⟨st0, rfl⟩ := List.getLast?_eq_some_iff.1 hk
          have HX := Lib.hid (half_yes k l (n : Int) st0 h hI hc.1 hc.2)
          have HD := Lib.hid hdp
          clear h hI hn2 hN hll hn hdp hc hk HB hA n2 n3 n4 m2 m3 m4
          go_enter Tryz.func261, Tryz.ntmps261
          go_wp2_with fail
          refine HX.out.mono ?_
          rintro e w1 ⟨rfl, h1⟩
          have H1 := Lib.hid h1
          clear h1
          go_wp2
          go_ret
          exact ⟨rfl, _, _, HD.out, H1.out⟩
        · cases hs
      · cases hs
    · rw [if_neg h5] at hs
      have n5 : (op == 5) = false := beq_eq_false_iff_ne.2 h5
      have m5 : decide (op = 5) = false := decide_eq_false h5
      by_cases h11 : op = 11
      · subst h11
        rw [if_pos rfl] at hs
        split at hs
        · rename_i k hk
          cases hs
          obtain ⟨st0, rfl⟩ := List.getLast?_eq_some_iff.1 hk
          have HX := Lib.hid (closes_yes k l (n : Int) st0 h hI)
          have HD := Lib.hid hdp
          clear h hI hn2 hN hll hn hdp hk HB hA n2 n3 n4 m2 m3 m4 n5 m5 h5
          go_enter Tryz.func261, Tryz.ntmps261
          go_wp2_with fail
          refine HX.out.mono ?_
          rintro e w1 ⟨rfl, sv1, h1⟩
          have H1 := Lib.hid h1
          clear h1
          go_wp2
          go_ret
          exact ⟨rfl, _, _, HD.out, by simpa using H1.out⟩
        · rename_i hk
          split at hs
          · rename_i hc
            cases hs
            obtain rfl : st = [] := List.getLast?_eq_none_iff.1 hk
            have HX := Lib.hid (closes_last l (n : Int) (by omega) h hI)
            have HD := Lib.hid hdp
            clear h hI hn2 hN hll hn hdp hk HB hA n2 n3 n4 m2 m3 m4 n5 m5 h5 hc
            go_enter Tryz.func261, Tryz.ntmps261
            go_wp2_with fail
            refine HX.out.mono ?_
            rintro e w1 ⟨rfl, h1⟩
            have H1 := Lib.hid h1
            clear h1
            go_wp2
            go_ret
            exact ⟨rfl, _, _, HD.out, H1.out⟩
          · cases hs
      · rw [if_neg h11] at hs
        cases hs
        have n11 : (op == 11) = false := beq_eq_false_iff_ne.2 h11
        have m11 : decide (op = 11) = false := decide_eq_false h11
        have H1 := Lib.hid h
        have HD := Lib.hid hdp
        clear h hI hn2 hN hll hn hdp HB hA h5 h11
        go_enter Tryz.func261, Tryz.ntmps261
        go_wp2
        go_ret
        exact ⟨rfl, _, _, HD.out, H1.out⟩
end Go.Proofs.YtjbdldekllffkaaGreatDoor
/- ctrl's walk and Blocks. -/
set_option linter.unusedVariables false
set_option linter.unusedSimpArgs false
namespace Go.Proofs.YtjbdldekllffkaaGreatDoor
open Go.RowKit Go.Sep Go.St
variable {W w : World} {b mr : Nat} {lv sv : Value} {st : List Int} {es : Es} {dp : Int}
def endsN (l : List Ins) (n : Nat) : Nat := ((l.take n).filter fun x => decide (x.op = 11)).length
structure WalkOk (l : List Ins) (es : Es) : Prop where
  run : runE l l.length = some ([], es)
  ne : 0 < l.length
  last : opA l ((l.length - 1 : Nat) : Int) = 11
  ends : endsN l l.length = es.length + 1
theorem runE_some {l : List Ins} {s : List Int × Es} : ∀ (n d : Nat), runE l (n + d) = some s → ∃ s0, runE l n = some s0
  | n, 0, h => ⟨s, h⟩
  | n, d + 1, h => by
    rw [← Nat.add_assoc] at h
    unfold runE at h
    cases hr : runE l (n + d) with
    | none => rw [hr] at h; cases h
    | some s1 => exact runE_some n d hr
theorem WalkOk.at_ {l : List Ins} {es : Es} (h : WalkOk l es) (n : Nat) (hn : n ≤ l.length) : ∃ s, runE l n = some s := by
  have := h.run
  rw [show l.length = n + (l.length - n) by omega] at this
  exact runE_some n _ this
theorem WalkOk.step {l : List Ins} {es : Es} (h : WalkOk l es) (n : Nat) (hn : n < l.length) (s : List Int × Es) (hs : runE l n = some s) : ∃ s', runE l (n + 1) = some s' ∧ stepE l n s = some s' := by
  obtain ⟨s', h'⟩ := h.at_ (n + 1) hn
  refine ⟨s', h', ?_⟩
  unfold runE at h'
  rwa [hs] at h'
theorem endsN_succ (l : List Ins) (n : Nat) (x : Ins) (hx : l[n]? = some x) : endsN l (n + 1) = endsN l n + if x.op = 11 then 1 else 0 := by
  unfold endsN
  rw [List.take_add_one, hx]
  simp only [Option.toList_some, List.filter_append, List.length_append]
  by_cases h : x.op = 11 <;> simp [h]
theorem endsN_le (l : List Ins) (n : Nat) : endsN l n ≤ n := by
  unfold endsN
  exact Nat.le_trans (List.length_filter_le _ _) (by simp; omega)
theorem linv_of {W : World} {lv : Value} {l : List Ins} {n : Nat} {s : List Int × Es} (hrd : RdL W (fun b => b < W.heap.size) 6 (InsR W (fun b => b < W.heap.size)) lv l) (hl : l.length ≤ 100000) (hn : n ≤ l.length) (hs : runE l n = some s) : LInv W lv l s.1 s.2 := by
  obtain ⟨a, b, c⟩ := runE_inv l n s hs
  exact ⟨hrd, fun k hk => ⟨(a k hk).1, by have := (a k hk).2; omega⟩, by omega, by omega, hl⟩
theorem wk_start (W : World) (lv : Value) : Wk W ((W.alloc (.map #[] 0)).alloc (.cells #[.slice none 0 0, lv, .map (some W.heap.size), .int .i64 0] 298)) (W.heap.size + 1) W.heap.size lv (.slice none 0 0) [] [] 0 :=
  ⟨((Below.refl _ _).alloc (Nat.le_refl _) _).alloc (by simp) _, by have := (Go.MapKept.heap_alloc (W.alloc (.map #[] 0)) (.cells #[.slice none 0 0, lv, .map (some W.heap.size), .int .i64 0] 298)).1; rwa [show (W.alloc (.map #[] 0)).heap.size = W.heap.size + 1 by simp] at this, row_nil _ _ _ _, (MapF.made W).move (heap_alloc_old _ _ (by simp)), by omega, Nat.le_refl _, fun k hk => absurd (show none = some k from hk) (fun h => nomatch h), by omega⟩
set_option maxRecDepth 100000 in
set_option maxHeartbeats 4000000 in
theorem cwalk_c (l : List Ins) (es : Es) (W : World) (lv : Value) (hrd : RdL W (fun b => b < W.heap.size) 6 (InsR W (fun b => b < W.heap.size)) lv l) (hl : l.length ≤ 100000) (ho : WalkOk l es) :
    Calls Tryz.prog 255 #[lv] W fun e w' => ∃ b mr sv dp, e = .returned (.tuple #[.pointer (some ⟨b, 0, none⟩), .bool true]) ∧ Wk W w' b mr lv sv [] es dp := by
  obtain ⟨A, c, rfl, _, _, _, _⟩ := id hrd
  have HW := Lib.hid (wk_start W (.slice A l.length c))
  have HR := Lib.hid (And.intro hrd (And.intro hl ho))
  have mk := fun w => run_makeMap (P := Tryz.prog) 195 w
  have q1 : IntKind.i64.wrap ((l.length : Int) - 1) = ((l.length - 1 : Nat) : Int) := by rw [IntWalk.i64_in _ (by omega)]; have := ho.ne; omega
  have d1 : ((l.length : Int) == 0) = false := beq_eq_false_iff_ne.2 (by have := ho.ne; omega)
  have d1' : (l.length == 0) = false := beq_eq_false_iff_ne.2 (by have := ho.ne; omega)
  clear hrd hl ho
  rename_i x1 x2 x3 x4
  clear x1 x2 x3 x4
  go_enter Tryz.func255, Tryz.ntmps255
  go_wp2_with fail
  generalize W.heap.size + 1 = b at *
  generalize hmr : W.heap.size = mr at HW ⊢
  go_loopw [15] (fun i wr => ∃ n : Nat, n ≤ l.length ∧ i = .int .i64 n ∧ ∃ s sv dp, runE l n = some s ∧ Wk W wr b mr (.slice A l.length c) sv s.1 s.2 dp ∧ (-1000000 ≤ dp ∧ dp ≤ 1000000)) (fun i _ => l.length - (intOf i).toNat)
  case atStart => exact ⟨0, Nat.zero_le _, rfl, ([], []), _, 0, rfl, HW.out, by omega, by omega⟩
  case round =>
    obtain ⟨n, hn, rfl, s, sv, dp, hrs, h, hdp⟩ := hrel
    by_cases hlt : n < l.length
    · obtain ⟨s', hs', hst⟩ := HR.out.2.2.step n hlt s hrs
      have HO := Lib.hid (cone_c l n hlt s' h (linv_of HR.out.1 HR.out.2.1 (by omega) hrs) hst (runE_inv l n s hrs).2 hdp)
      have HS := Lib.hid hs'
      have hi : IntKind.i64.wrap ((n : Int) + 1) = (n : Int) + 1 := IntWalk.i64_in _ (by have := HR.out.2.1; omega)
      have i1 : decide ((n : Int) < (l.length : Int)) = true := decide_eq_true (by omega)
      clear hs' hst hrs h hdp hn
      go_wp2_with fail
      refine HO.out.mono ?_
      rintro e w2 ⟨rfl, sv2, dp2, hd2, h2⟩
      have H2 := Lib.hid (And.intro hd2 h2)
      clear hd2 h2
      go_wp2
      go_roundw
      case rel => exact ⟨n + 1, hlt, by go_num, s', sv2, dp2, HS.out, H2.out.2, H2.out.1⟩
      case measure => (simp [intOf]; try omega)
    · obtain rfl : n = l.length := by omega
      have hd0 : decide ((l.length : Int) < (l.length : Int)) = false := decide_eq_false (by omega)
      rw [HR.out.2.2.run] at hrs
      cases hrs
      have H := Lib.hid (And.intro h hdp)
      have c0 := h.c0
      obtain ⟨A1, m1, k1, rfl, _, _, hx, _⟩ := h.row.rd
      have hm1 : m1 = 0 := by rw [ints_len] at hx; simp at hx; omega
      subst hm1
      obtain ⟨g, o, c', e, _, cop⟩ := ins_cell (linv_of HR.out.1 HR.out.2.1 (Nat.le_refl _) HR.out.2.2.run) h.bel ((l.length - 1 : Nat) : Int) (by omega) (by have := HR.out.2.2.ne; omega)
      rw [HR.out.2.2.last, Int.toNat_natCast] at cop
      cases e
      have hle : l.length - 1 < l.length := by have := HR.out.2.2.ne; omega
      have i2 : ((l.length - 1 : Nat) : Int) < (l.length : Int) := by omega
      clear h hdp hlt hx hn
      go_wp2_with fail
      generalize hW : HR.out.1 = hrd at *
      clear hW hrd cop c0 hle i2 d1 d1' q1
      clear HW
      go_loopw [6, 46] (fun k i wr => ∃ n : Nat, n ≤ l.length ∧ i = .int .i64 n ∧ k = .int .i64 (endsN l n : Nat) ∧ Wk W wr b mr (.slice (some ⟨g, o, none⟩) l.length c) (.slice A1 0 k1) [] es dp) (fun _ i _ => l.length - (intOf i).toNat)
      case atStart => exact ⟨0, Nat.zero_le _, rfl, rfl, H.out.1⟩
      case round =>
        obtain ⟨n, hn, rfl, rfl, h⟩ := hrel
        by_cases hlt : n < l.length
        · have hx : l[n]? = some l[n] := List.getElem?_eq_getElem hlt
          have hsu := endsN_succ l n _ hx
          have hle := endsN_le l n
          generalize l[n] = x at hx hsu
          obtain ⟨A9, c9, e9, _, _, h9, _⟩ := HR.out.1
          cases e9
          obtain ⟨g9, o9, e9, hg9, hc9⟩ := h9 (by omega)
          cases e9
          obtain ⟨cs, g1, ⟨lx, rfl, ⟨Al, cl, rfl, _, _, _, _⟩⟩, g3⟩ := hc9 n x hx
          have x0 := (h.bel.cell (p := ⟨g, o + n * 6 + 0, none⟩) hg9).trans (g3 0 _ rfl)
          have x1 := (h.bel.cell (p := ⟨g, o + n * 6 + 1, none⟩) hg9).trans (g3 1 _ rfl)
          have x2 := (h.bel.cell (p := ⟨g, o + n * 6 + 2, none⟩) hg9).trans (g3 2 _ rfl)
          have x3 := (h.bel.cell (p := ⟨g, o + n * 6 + 3, none⟩) hg9).trans (g3 3 _ rfl)
          have x4 := (h.bel.cell (p := ⟨g, o + n * 6 + 4, none⟩) hg9).trans (g3 4 _ rfl)
          have x5 := (h.bel.cell (p := ⟨g, o + n * 6 + 5, none⟩) hg9).trans (g3 5 _ rfl)
          rw [Nat.add_zero] at x0
          have hi : IntKind.i64.wrap ((n : Int) + 1) = (n : Int) + 1 := IntWalk.i64_in _ (by have := HR.out.2.1; omega)
          have hi2 : IntKind.i64.wrap ((endsN l n : Nat) + 1) = ((endsN l n + 1 : Nat) : Int) := by rw [IntWalk.i64_in _ (by have := HR.out.2.1; omega)]; omega
          have i1 : decide ((n : Int) < (l.length : Int)) = true := decide_eq_true (by omega)
          have H3 := Lib.hid (h.still ((Below.refl wr.heap.size wr).alloc (Nat.le_refl _) (.cells #[.int .i64 x.op, .int .u32 x.a, .int .u32 x.b, .int .u64 x.n, .slice Al x.l.length cl, .int .i64 x.t] 60)))
          clear h hg9 hc9 g1 g3 h9 hn hle hx
          by_cases h11 : x.op = 11
          · have HS := Lib.hid hsu
            have e11 : (x.op == 11) = true := by rw [h11]; rfl
            have HX := Lib.hid h11
            clear hsu h11
            go_wp2
            go_roundw
            case rel => exact ⟨n + 1, hlt, by go_num, by have := HS.out; rw [if_pos HX.out] at this; rw [this]; exact congrArg (Value.int .i64) (by omega), H3.out⟩
            case measure => (simp [intOf]; try omega)
          · have HS := Lib.hid hsu
            have e11 : (x.op == 11) = false := beq_eq_false_iff_ne.2 h11
            have HX := Lib.hid h11
            clear hsu h11
            go_wp2
            go_roundw
            case rel => exact ⟨n + 1, hlt, by go_num, by have := HS.out; rw [if_neg HX.out] at this; rw [this]; rfl, H3.out⟩
            case measure => (simp [intOf]; try omega)
        · obtain rfl : n = l.length := by omega
          rw [HR.out.2.2.ends]
          have c2 := h.c2
          have hes : es.length ≤ l.length := (runE_inv l l.length _ HR.out.2.2.run).2.2
          have q3 : IntKind.i64.wrap ((es.length : Int) + 1) = ((es.length + 1 : Nat) : Int) := by rw [IntWalk.i64_in _ (by have := HR.out.2.1; omega)]; omega
          have hm := h.map
          obtain ⟨D, ho, _, hsz, _⟩ := hm
          have HO := Lib.hid ho
          have H4 := Lib.hid h
          have HZ := Lib.hid hsz
          clear h ho hsz hlt hn hes
          rename_i hTidy hAll
          clear hTidy hAll
          go_wp2_with (at_len; refine wpList_len_own _ (by rfl) _ 195 (by rfl) 3 227 Tryz.underlying195 rdB mr es.length D (by rfl) HO.out ?_; rw [HZ.out])
          go_ret2
          exact ⟨b, mr, _, dp, rfl, H4.out⟩
/-- ctrl.Blocks, of a list in which all stands where it may. -/
theorem blocks_c (l : List Ins) (es : Es) (W : World) (lv : Value) (hrd : RdL W (fun b => b < W.heap.size) 6 (InsR W (fun b => b < W.heap.size)) lv l) (hl : l.length ≤ 100000) (ho : WalkOk l es) :
    Calls Tryz.prog 227 #[lv] W fun e w' => ∃ mr, e = .returned (.tuple #[.map (some mr), .bool true]) ∧ Below W.heap.size W w' ∧ W.heap.size ≤ mr ∧ MapF w' mr es := by
  obtain ⟨A, c, rfl, _, _, _, _⟩ := id hrd
  have HC := Lib.hid (cwalk_c l es W _ hrd hl ho)
  clear hrd hl ho
  rename_i x1 x2 x3 x4
  clear x1 x2 x3 x4
  go_enter Tryz.func227, Tryz.ntmps227
  go_wp2_with fail
  refine HC.out.mono ?_
  rintro e w1 ⟨b, mr, sv, dp, rfl, h⟩
  have c2 := h.c2
  have H := Lib.hid h
  clear h
  go_wp2
  go_ret2
  exact ⟨mr, rfl, H.out.bel, H.out.hm, H.out.map⟩
end Go.Proofs.YtjbdldekllffkaaGreatDoor
/- inst.Value; rows that are made. -/
set_option linter.unusedVariables false
set_option linter.unusedSimpArgs false
namespace Go.Proofs.YtjbdldekllffkaaGreatDoor
open Go.RowKit Go.Sep Go.St
def valueC (l : List Ins) : Int := match l with
  | [] => 0
  | x :: _ => if x.op = 65 ∨ x.op = 66 then x.n else if x.op = 210 then x.a + 1 else 0
/-- The six cells of an instruction. -/
theorem ins_six {w : World} {S : Nat → Prop} {A : Option Addr} {n c : Nat} {l : List Ins} (h : RdL w S 6 (InsR w S) (.slice A n c) l) (k : Nat) (x : Ins) (hx : l[k]? = some x) :
    ∃ g o Al cl, A = some ⟨g, o, none⟩ ∧ S g ∧ n = l.length ∧ w.cell? ⟨g, o + k * 6, none⟩ = some (.int .i64 x.op) ∧ w.cell? ⟨g, o + k * 6 + 1, none⟩ = some (.int .u32 x.a) ∧ w.cell? ⟨g, o + k * 6 + 2, none⟩ = some (.int .u32 x.b) ∧
      w.cell? ⟨g, o + k * 6 + 3, none⟩ = some (.int .u64 x.n) ∧ w.cell? ⟨g, o + k * 6 + 4, none⟩ = some (.slice Al x.l.length cl) ∧ w.cell? ⟨g, o + k * 6 + 5, none⟩ = some (.int .i64 x.t) ∧ RdL w S 1 (num1 .u32) (.slice Al x.l.length cl) x.l := by
  obtain ⟨A', c', e, h1, h2, h3, _⟩ := id h
  obtain ⟨g, o, cs, rfl, hS, g1, ⟨lv, rfl, hl⟩, g3⟩ := h.get k x hx
  have hl2 := hl
  obtain ⟨Al, cl, rfl, _, _, _, _⟩ := hl2
  cases e
  exact ⟨g, o, Al, cl, rfl, hS, rfl, g3 0 _ rfl, g3 1 _ rfl, g3 2 _ rfl, g3 3 _ rfl, g3 4 _ rfl, g3 5 _ rfl, hl⟩
set_option maxHeartbeats 2000000 in
theorem value_c (w : World) (S : Nat → Prop) (lv : Value) (l : List Ins) (h : RdL w S 6 (InsR w S) lv l) (hw : ∀ x ∈ l, Ins.wf x) :
    Calls Tryz.prog 147 #[lv] w fun e w' => e = .returned (.int .u64 (valueC l)) ∧ Below w.heap.size w w' := by
  obtain ⟨A, c, rfl, h1, h2, h3, hA⟩ := id h
  cases l with
  | nil =>
    clear h h1 h2 h3 hA hw
    go_enter Tryz.func147, Tryz.ntmps147
    go_wp2
    go_ret
    exact ⟨rfl, Below.refl _ _⟩
  | cons x r =>
    obtain ⟨g, o, Al, cl, rfl, _, _, x0, x1, x2, x3, x4, x5, _⟩ := ins_six h 0 x rfl
    rw [Nat.zero_mul, Nat.add_zero] at x0 x1 x2 x3 x4 x5
    have d0 : (((x :: r).length : Int) == 0) = false := beq_eq_false_iff_ne.2 (by simp; omega)
    have d1 : ((x :: r).length == 0) = false := beq_eq_false_iff_ne.2 (by simp)
    have d2 : (0 : Int) < ((x :: r).length : Int) := by simp
    have d3 : 0 < (x :: r).length := by simp
    have hwx := hw x (by simp)
    have q1 : IntKind.u64.wrap x.a = x.a := IntWalk.u64_in _ (by have := hwx.a; omega)
    have q2 : IntKind.u64.wrap (x.a + 1) = x.a + 1 := IntWalk.u64_in _ (by have := hwx.a; omega)
    have HB := Lib.hid ((Below.refl w.heap.size w).alloc (Nat.le_refl _) (.cells #[.int .i64 x.op, .int .u32 x.a, .int .u32 x.b, .int .u64 x.n, .slice Al x.l.length cl, .int .i64 x.t] 60))
    unfold valueC
    simp only
    clear h h1 h2 h3 hA hw hwx
    generalize (x :: r).length = n at *
    by_cases e65 : x.op = 65
    · rw [if_pos (.inl e65)]
      have t1 : (x.op == 65) = true := by rw [e65]; rfl
      clear e65
      go_enter Tryz.func147, Tryz.ntmps147
      go_wp2
      go_ret
      exact ⟨rfl, HB.out⟩
    · have t1 : (x.op == 65) = false := beq_eq_false_iff_ne.2 e65
      by_cases e66 : x.op = 66
      · rw [if_pos (.inr e66)]
        have t2 : (x.op == 66) = true := by rw [e66]; rfl
        clear e65 e66
        go_enter Tryz.func147, Tryz.ntmps147
        go_wp2
        go_ret
        exact ⟨rfl, HB.out⟩
      · have t2 : (x.op == 66) = false := beq_eq_false_iff_ne.2 e66
        rw [if_neg (by rintro (h | h); exact e65 h; exact e66 h)]
        by_cases e210 : x.op = 210
        · rw [if_pos e210]
          have t3 : (x.op == 210) = true := by rw [e210]; rfl
          clear e65 e66 e210
          go_enter Tryz.func147, Tryz.ntmps147
          go_wp2
          go_ret
          exact ⟨rfl, HB.out⟩
        · rw [if_neg e210]
          have t3 : (x.op == 210) = false := beq_eq_false_iff_ne.2 e210
          clear e65 e66 e210
          go_enter Tryz.func147, Tryz.ntmps147
          go_wp2
          go_ret
          exact ⟨rfl, HB.out⟩
theorem made_one (z : Value) (n : Nat) (hz : z.cells = #[z]) : madeCells z.cells (n * 1) = Array.replicate n z := by
  rw [hz]
  apply Array.ext
  · simp [madeCells]
  · intro i h1 h2
    simp [madeCells, Nat.mod_one]
theorem run_mk (w : World) (t e : TypeId) (z : Value) (bytes : Nat) (ht : Tryz.prog.underlying t = some (.slice e)) (hinfo : (Tryz.prog.info? e).map (fun i => (i.zero, i.size, i.bytes)) = some (some z, 1, bytes)) (hz : z.cells = #[z]) (hb : bytes ≤ 8) (n : Nat) (hn : n ≤ 1000000) :
    ∀ (kl kc : IntKind), (Instr.makeSlice t (.int kl (n : Int)) (.int kc (n : Int))).run Tryz.prog w = .ok (.slice (some ⟨w.heap.size, 0, none⟩) n n) (w.alloc (.cells (Array.replicate n z) e)) := by
  intro kl kc
  obtain ⟨i, hi, hzz, hsize, hby⟩ : ∃ i, Tryz.prog.info? e = some i ∧ i.zero = some z ∧ i.size = 1 ∧ i.bytes = bytes := by
    cases hi : Tryz.prog.info? e with
    | none => rw [hi] at hinfo; cases hinfo
    | some i =>
      rw [hi] at hinfo
      injection hinfo with hinfo
      injection hinfo with e1 e2
      injection e2 with e2 e3
      exact ⟨i, rfl, e1, e2, e3⟩
  have hbn : (i.bytes : Int) * (n : Int) ≤ 281474976710656 := by
    have h : i.bytes * n ≤ 8 * 1000000 := Nat.mul_le_mul (by omega) hn
    have : ((i.bytes * n : Nat) : Int) = (i.bytes : Int) * (n : Int) := by simp
    omega
  have := run_make (P := Tryz.prog) w t e i z ht hi hzz kl kc n n (by omega) (Int.le_refl _) hbn (by omega)
  rw [Int.toNat_natCast, hsize, made_one z n hz] at this
  exact this
end Go.Proofs.YtjbdldekllffkaaGreatDoor
/- step's machine: function says no. -/
set_option linter.unusedVariables false
namespace Go.Proofs.YtjbdldekllffkaaGreatDoor
open Go.RowKit Go.Sep Go.St
variable {w : World} {S : Nat → Prop} {L : Key → Option Ck} {u : Nat} {P : Ptrs} {M : Mo} {s : Ms}
def FnNo (w : World) (e : Ending) (w' : World) : Prop := e = .returned (.tuple #[.agg #[.slice none 0 0, .slice none 0 0], .bool false]) ∧ Still w w'
set_option maxRecDepth 100000 in
set_option maxHeartbeats 1000000 in
theorem function_no_a (h : Md w S L u P M s) (f : Nat) (hf : f < 4294967296) (q : M.funcs.length ≤ f) :
    Calls Tryz.prog 54 #[.pointer (some ⟨P.mB, 0, none⟩), .int .u32 (f : Int)] w (FnNo w) := by
  obtain ⟨mc, tA, fA, cA, bA, tc, fc, cc, bc, mv, tv, gv, ev, dv, hx⟩ := h.inx
  have HS1 := fun w => has_c (f : Int) M.funcs.length false (by omega) (by omega) hx.funcs.len.2.2 (decide_eq_false (by omega)) w
  have G1 := Lib.hid HS1
  have m1 := hx.m1
  have i0 := hx.i0
  have i1 := hx.i1
  have i11 := hx.i11
  have i13 := hx.i13
  have l1 := World.block_lt_of_cell? w _ m1
  have l2 := World.block_lt_of_cell? w _ i0
  clear h hx hf q HS1
  go_enter Tryz.func54, Tryz.ntmps54
  go_wp2_with fail
  go_quiet ((go_at_call 94; first | (with_reducible exact Calls.quiet_of_same (G1.out _))))
  go_wp2
  exact bodyPost_ret (v := .tuple #[.agg #[.slice none 0 0, .slice none 0 0], .bool false]) (by simp [results, Tryz.results54, go_sem]) rfl ⟨rfl, by repeat (first | exact Still.refl _ | refine Still.drewN ?_ _ | refine Still.drew ?_ | refine Still.alloc ?_ _ | refine Still.setNew ?_ _ _ (by simp))⟩
set_option maxRecDepth 100000 in
set_option maxHeartbeats 1000000 in
theorem function_no_b (h : Md w S L u P M s) (f : Nat) (hf : f < 4294967296) (x : Int) (hx1 : M.funcs[f]? = some x) (q : M.types.length ≤ x.toNat) :
    Calls Tryz.prog 54 #[.pointer (some ⟨P.mB, 0, none⟩), .int .u32 (f : Int)] w (FnNo w) := by
  obtain ⟨mc, tA, fA, cA, bA, tc, fc, cc, bc, mv, tv, gv, ev, dv, hx⟩ := h.inx
  obtain ⟨fb, fo, fv, rfl, _, hfv, cf⟩ := hx.funcs.get1 f x hx1
  have hfv : fv = .int .u32 x := by have : [fv] = [.int .u32 x] := hfv; simpa using this
  subst hfv
  obtain ⟨x0, x1⟩ := h.wf.funcs x (List.mem_of_getElem? hx1)
  obtain ⟨n, rfl⟩ := Int.eq_ofNat_of_zero_le x0
  rw [Int.toNat_natCast] at *
  have a1 := (List.getElem?_eq_some_iff.1 hx1).1
  have HS1 := fun w => has_c (f : Int) M.funcs.length true (by omega) (by omega) hx.funcs.len.2.2 (decide_eq_true (by omega)) w
  have G1 := Lib.hid HS1
  have HS2 := fun w => has_c (n : Int) M.types.length false (by omega) (by omega) hx.types.len.2.2 (decide_eq_false (by omega)) w
  have G2 := Lib.hid HS2
  have m1 := hx.m1
  have i0 := hx.i0
  have i1 := hx.i1
  have i11 := hx.i11
  have i13 := hx.i13
  have b1 : (0 : Int) ≤ (f : Int) := by omega
  have b2 : (f : Int) < (M.funcs.length : Int) := by omega
  have l3 := World.block_lt_of_cell? w _ cf
  have l1 := World.block_lt_of_cell? w _ m1
  have l2 := World.block_lt_of_cell? w _ i0
  clear h hx hf q HS1 HS2 hfv hx1 x0 x1 a1
  go_enter Tryz.func54, Tryz.ntmps54
  go_wp2_with fail
  go_quiet ((go_at_call 94; first | (with_reducible exact Calls.quiet_of_same (G1.out _)) | (with_reducible exact Calls.quiet_of_same (G2.out _))))
  go_wp2
  exact bodyPost_ret (v := .tuple #[.agg #[.slice none 0 0, .slice none 0 0], .bool false]) (by simp [results, Tryz.results54, go_sem]) rfl ⟨rfl, by repeat (first | exact Still.refl _ | refine Still.drewN ?_ _ | refine Still.drew ?_ | refine Still.alloc ?_ _ | refine Still.setNew ?_ _ _ (by simp))⟩
set_option maxRecDepth 100000 in
set_option maxHeartbeats 1000000 in
theorem function_no_c (h : Md w S L u P M s) (f : Nat) (hf : f < 4294967296) (x : Int) (hx1 : M.funcs[f]? = some x) (q0 : x.toNat < M.types.length) (q : M.codes.length ≤ f) :
    Calls Tryz.prog 54 #[.pointer (some ⟨P.mB, 0, none⟩), .int .u32 (f : Int)] w (FnNo w) := by
  obtain ⟨mc, tA, fA, cA, bA, tc, fc, cc, bc, mv, tv, gv, ev, dv, hx⟩ := h.inx
  obtain ⟨fb, fo, fv, rfl, _, hfv, cf⟩ := hx.funcs.get1 f x hx1
  have hfv : fv = .int .u32 x := by have : [fv] = [.int .u32 x] := hfv; simpa using this
  subst hfv
  obtain ⟨x0, x1⟩ := h.wf.funcs x (List.mem_of_getElem? hx1)
  obtain ⟨n, rfl⟩ := Int.eq_ofNat_of_zero_le x0
  rw [Int.toNat_natCast] at *
  have a1 := (List.getElem?_eq_some_iff.1 hx1).1
  have HS1 := fun w => has_c (f : Int) M.funcs.length true (by omega) (by omega) hx.funcs.len.2.2 (decide_eq_true (by omega)) w
  have G1 := Lib.hid HS1
  have HS2 := fun w => has_c (n : Int) M.types.length true (by omega) (by omega) hx.types.len.2.2 (decide_eq_true (by omega)) w
  have G2 := Lib.hid HS2
  have HS3 := fun w => has_c (f : Int) M.codes.length false (by omega) (by omega) hx.codes.len.2.2 (decide_eq_false (by omega)) w
  have G3 := Lib.hid HS3
  have m1 := hx.m1
  have i0 := hx.i0
  have i1 := hx.i1
  have i11 := hx.i11
  have i13 := hx.i13
  have b1 : (0 : Int) ≤ (f : Int) := by omega
  have b2 : (f : Int) < (M.funcs.length : Int) := by omega
  have l3 := World.block_lt_of_cell? w _ cf
  have l1 := World.block_lt_of_cell? w _ m1
  have l2 := World.block_lt_of_cell? w _ i0
  clear h hx hf q HS1 HS2 HS3 hfv hx1 x0 x1 a1 q0
  go_enter Tryz.func54, Tryz.ntmps54
  go_wp2_with fail
  go_quiet ((go_at_call 94; first | (with_reducible exact Calls.quiet_of_same (G1.out _)) | (with_reducible exact Calls.quiet_of_same (G2.out _)) | (with_reducible exact Calls.quiet_of_same (G3.out _))))
  go_wp2
  exact bodyPost_ret (v := .tuple #[.agg #[.slice none 0 0, .slice none 0 0], .bool false]) (by simp [results, Tryz.results54, go_sem]) rfl ⟨rfl, by repeat (first | exact Still.refl _ | refine Still.drewN ?_ _ | refine Still.drew ?_ | refine Still.alloc ?_ _ | refine Still.setNew ?_ _ _ (by simp))⟩
set_option maxRecDepth 100000 in
set_option maxHeartbeats 1000000 in
theorem function_no_d (h : Md w S L u P M s) (f : Nat) (hf : f < 4294967296) (x : Int) (hx1 : M.funcs[f]? = some x) (q0 : x.toNat < M.types.length) (q1 : f < M.codes.length) (q : s.i.blocks.length ≤ f) :
    Calls Tryz.prog 54 #[.pointer (some ⟨P.mB, 0, none⟩), .int .u32 (f : Int)] w (FnNo w) := by
  obtain ⟨mc, tA, fA, cA, bA, tc, fc, cc, bc, mv, tv, gv, ev, dv, hx⟩ := h.inx
  obtain ⟨fb, fo, fv, rfl, _, hfv, cf⟩ := hx.funcs.get1 f x hx1
  have hfv : fv = .int .u32 x := by have : [fv] = [.int .u32 x] := hfv; simpa using this
  subst hfv
  obtain ⟨x0, x1⟩ := h.wf.funcs x (List.mem_of_getElem? hx1)
  obtain ⟨n, rfl⟩ := Int.eq_ofNat_of_zero_le x0
  rw [Int.toNat_natCast] at *
  have a1 := (List.getElem?_eq_some_iff.1 hx1).1
  have HS1 := fun w => has_c (f : Int) M.funcs.length true (by omega) (by omega) hx.funcs.len.2.2 (decide_eq_true (by omega)) w
  have G1 := Lib.hid HS1
  have HS2 := fun w => has_c (n : Int) M.types.length true (by omega) (by omega) hx.types.len.2.2 (decide_eq_true (by omega)) w
  have G2 := Lib.hid HS2
  have HS3 := fun w => has_c (f : Int) M.codes.length true (by omega) (by omega) hx.codes.len.2.2 (decide_eq_true (by omega)) w
  have G3 := Lib.hid HS3
  have HS4 := fun w => has_c (f : Int) s.i.blocks.length false (by omega) (by omega) hx.blocks.len.2.2 (decide_eq_false (by omega)) w
  have G4 := Lib.hid HS4
  have m1 := hx.m1
  have i0 := hx.i0
  have i1 := hx.i1
  have i11 := hx.i11
  have i13 := hx.i13
  have b1 : (0 : Int) ≤ (f : Int) := by omega
  have b2 : (f : Int) < (M.funcs.length : Int) := by omega
  have l3 := World.block_lt_of_cell? w _ cf
  have l1 := World.block_lt_of_cell? w _ m1
  have l2 := World.block_lt_of_cell? w _ i0
  clear h hx hf q HS1 HS2 HS3 HS4 hfv hx1 x0 x1 a1 q0 q1
  go_enter Tryz.func54, Tryz.ntmps54
  go_wp2_with fail
  go_quiet ((go_at_call 94; first | (with_reducible exact Calls.quiet_of_same (G1.out _)) | (with_reducible exact Calls.quiet_of_same (G2.out _)) | (with_reducible exact Calls.quiet_of_same (G3.out _)) | (with_reducible exact Calls.quiet_of_same (G4.out _))))
  go_wp2
  exact bodyPost_ret (v := .tuple #[.agg #[.slice none 0 0, .slice none 0 0], .bool false]) (by simp [results, Tryz.results54, go_sem]) rfl ⟨rfl, by repeat (first | exact Still.refl _ | refine Still.drewN ?_ _ | refine Still.drew ?_ | refine Still.alloc ?_ _ | refine Still.setNew ?_ _ _ (by simp))⟩
theorem function_no (h : Md w S L u P M s) (f : Nat) (hf : f < 4294967296) (ht : functionM M s.i.blocks.length f = none) :
    Calls Tryz.prog 54 #[.pointer (some ⟨P.mB, 0, none⟩), .int .u32 (f : Int)] w (FnNo w) := by
  rcases Nat.lt_or_ge f M.funcs.length with h1 | h1
  · have hx1 : M.funcs[f]? = some M.funcs[f] := List.getElem?_eq_getElem h1
    rcases Nat.lt_or_ge M.funcs[f].toNat M.types.length with h2 | h2
    · rcases Nat.lt_or_ge f M.codes.length with h3 | h3
      · rcases Nat.lt_or_ge f s.i.blocks.length with h4 | h4
        · exfalso
          simp [functionM, hx1, List.getElem?_eq_getElem h2, h3, h4] at ht
        · exact function_no_d h f hf _ hx1 h2 h3 h4
      · exact function_no_c h f hf _ hx1 h2 h3
    · exact function_no_b h f hf _ hx1 h2
  · exact function_no_a h f hf h1
end Go.Proofs.YtjbdldekllffkaaGreatDoor
/- step's machine: op, signature. -/
set_option linter.unusedVariables false
namespace Go.Proofs.YtjbdldekllffkaaGreatDoor
open Go.RowKit Go.Sep Go.St
variable {w : World} {S : Nat → Prop} {L : Key → Option Ck} {u : Nat} {P : Ptrs} {M : Mo} {s : Ms}
/-- A function's body as it lies. -/
theorem Inx.body {mc : List Value} {tA fA cA bA : Option Addr} {tc fc cc bc : Nat} {mv tv gv ev dv : Value} (hx : Inx w S L u P M s mc tA fA cA bA tc fc cc bc mv tv gv ev dv) (n : Nat) (c : Cd) (hc : M.codes[n]? = some c) :
    ∃ cb co lA lc bA' bc', cA = some ⟨cb, co, none⟩ ∧ w.cell? ⟨cb, co + n * 2, none⟩ = some (.slice lA c.ls.length lc) ∧ w.cell? ⟨cb, co + n * 2 + 1, none⟩ = some (.slice bA' c.body.length bc') ∧
      RdL w S 1 (num1 .u8) (.slice lA c.ls.length lc) c.ls ∧ RdL w S 6 (InsR w S) (.slice bA' c.body.length bc') c.body := by
  obtain ⟨cb, co, v, v', rfl, _, ⟨lv, bv, hpr, hl, hb⟩, c0, c1⟩ := hx.codes.get2 n c hc
  obtain ⟨rfl, rfl⟩ : v = lv ∧ v' = bv := by simpa using hpr
  have hl' := hl
  have hb' := hb
  obtain ⟨lA, lc, rfl, _⟩ := hl
  obtain ⟨bA', bc', rfl, _⟩ := hb
  exact ⟨cb, co, lA, lc, bA', bc', rfl, c0, c1, hl', hb'⟩
/-- An instruction as it lies. -/
theorem RdL.ins {A : Option Addr} {n c : Nat} {xs : List Ins} (h : RdL w S 6 (InsR w S) (.slice A n c) xs) (k : Nat) (x : Ins) (hx : xs[k]? = some x) :
    ∃ b o lA lc, A = some ⟨b, o, none⟩ ∧ w.cell? ⟨b, o + k * 6, none⟩ = some (.int .i64 x.op) ∧ w.cell? ⟨b, o + k * 6 + 1, none⟩ = some (.int .u32 x.a) ∧ w.cell? ⟨b, o + k * 6 + 2, none⟩ = some (.int .u32 x.b) ∧
      w.cell? ⟨b, o + k * 6 + 3, none⟩ = some (.int .u64 x.n) ∧ w.cell? ⟨b, o + k * 6 + 4, none⟩ = some (.slice lA x.l.length lc) ∧ w.cell? ⟨b, o + k * 6 + 5, none⟩ = some (.int .i64 x.t) ∧ RdL w S 1 (num1 .u32) (.slice lA x.l.length lc) x.l := by
  obtain ⟨b, o, cs, rfl, _, h1, ⟨lv, rfl, hl⟩, h4⟩ := h.get k x hx
  have hl' := hl
  obtain ⟨lA, lc, rfl, _⟩ := hl
  exact ⟨b, o, lA, lc, rfl, h4 0 _ rfl, h4 1 _ rfl, h4 2 _ rfl, h4 3 _ rfl, h4 4 _ rfl, h4 5 _ rfl, hl'⟩
set_option maxRecDepth 100000 in
set_option maxHeartbeats 1000000 in
theorem op_c (h : Md w S L u P M s) {k fB fc0 : Nat} {f : Fr} {sv vv lv bv : Value} {raws : List (Value × Value)} (hf : Frm w L u P s k f fB fc0 sv vv raws lv bv) (hb : k ≤ 1000000) (n : Nat) (hn : f.fn = n) (c : Cd) (hc : M.codes[n]? = some c) (at_ : Int) :
    Calls Tryz.prog 55 #[.pointer (some ⟨P.mB, 0, none⟩), .int .i64 at_] w fun e w' => e = .returned (.int .i64 (opM M n at_)) ∧ ∃ m, w' = w.drewN m := by
  obtain ⟨mc, tA, fA, cA, bA, tc, fc, cc, bc, mv, tv, gv, ev, dv, hx⟩ := h.inx
  obtain ⟨cb, co, lA, lc, bA', bc', rfl, c0, c1, hl, hbd⟩ := hx.body n c hc
  have m0 := hx.m0
  have m1 := hx.m1
  have i11 := hx.i11
  have f0 := hf.cell 0 _ rfl
  rw [hn, Nat.add_zero] at f0
  have G := Lib.hid (fun m => frame_c (h.still ((Still.refl w).drewN m)) (hf.still ((Still.refl w).drewN m)) hb)
  have a1 := (List.getElem?_eq_some_iff.1 hc).1
  have b1 : (0 : Int) ≤ (n : Int) := by omega
  have b2 : (n : Int) < (M.codes.length : Int) := by omega
  have HW := Lib.hid (h.wf.body c (List.mem_of_getElem? hc)).1
  rcases Int.lt_or_le at_ 0 with h0 | h0
  · have hv : opM M n at_ = -1 := by simp [opM, insAt, h0]
    rw [hv]
    have d1 : decide (at_ < 0) = true := decide_eq_true h0
    clear h hf hx hl hbd hc a1 hn hv h0 hb
    go_enter Tryz.func55, Tryz.ntmps55
    go_wp2_with fail
    go_quiet ((go_at_call 53; exact Calls.quiet_of (G.out _)))
    go_wp2
    go_ret
    exact ⟨rfl, _, rfl⟩
  · obtain ⟨a, rfl⟩ := Int.eq_ofNat_of_zero_le h0
    have e0 : (0 : Int) ≤ (a : Int) := h0
    have d1 : decide ((a : Int) < 0) = false := decide_eq_false (by omega)
    rcases Nat.lt_or_ge a c.body.length with h1 | h1
    · obtain ⟨X, hx1⟩ : ∃ X, c.body[a]? = some X := ⟨_, List.getElem?_eq_getElem h1⟩
      obtain ⟨b, o, xA, xc, rfl, x0, x1, x2, x3, x4, x5, xl⟩ := hbd.ins a _ hx1
      have hv : opM M n (a : Int) = X.op := by simp [opM, insAt, hc, hx1, show ¬ ((a : Int) < 0) by omega]
      rw [hv]
      have d2 : decide ((a : Int) < (c.body.length : Int)) = true := decide_eq_true (by omega)
      have d3 : decide (c.body.length ≤ a) = false := decide_eq_false (by omega)
      have e1 : (a : Int) < (c.body.length : Int) := by omega
      clear h hf hx hl hbd hc a1 hn hv hb h1 hx1 xl x1 x2 x3 x4 x5
      generalize X.op = op at x0 ⊢
      go_enter Tryz.func55, Tryz.ntmps55
      go_wp2_with fail
      go_quiet ((go_at_call 53; exact Calls.quiet_of (G.out _)))
      go_wp2
      go_ret
      exact ⟨rfl, _, rfl⟩
    · have hv : opM M n (a : Int) = -1 := by simp [opM, insAt, hc, List.getElem?_eq_none h1, show ¬ ((a : Int) < 0) by omega]
      rw [hv]
      have d2 : decide ((a : Int) < (c.body.length : Int)) = false := decide_eq_false (by omega)
      have d3 : decide (c.body.length ≤ a) = true := decide_eq_true h1
      clear h hf hx hl hbd hc a1 hn hv hb h1 h0
      go_enter Tryz.func55, Tryz.ntmps55
      go_wp2_with fail
      go_quiet ((go_at_call 53; exact Calls.quiet_of (G.out _)))
      go_wp2
      go_ret
      exact ⟨rfl, _, rfl⟩
/-- What signature gives. -/
theorem signature_c (h : Md w S L u P M s) (t : Int) (ht : -1000000 < t ∧ t < 1000000) (r : Option (Nat × Nat)) (hr : signM M t = r) :
    Calls Tryz.prog 161 #[.pointer (some ⟨P.mB, 0, none⟩), .int .i64 t] w fun e w' => e = .returned (.tuple #[.int .i64 ((r.getD (0, 0)).1 : Int), .int .i64 ((r.getD (0, 0)).2 : Int), .bool r.isSome]) ∧ Still w w' := by
  obtain ⟨mc, tA, fA, cA, bA, tc, fc, cc, bc, mv, tv, gv, ev, dv, hx⟩ := h.inx
  have m1 := hx.m1
  have i0 := hx.i0
  have l1 := World.block_lt_of_cell? w _ m1
  have l2 := World.block_lt_of_cell? w _ i0
  subst hr
  by_cases h0 : t = -64
  · subst h0
    have hv : signM M (-64) = some (0, 0) := by simp [signM]
    rw [hv]
    clear h hx ht hv
    go_enter Tryz.func161, Tryz.ntmps161
    go_wp2
    go_ret3
    exact ⟨rfl, Still.refl _⟩
  have d0 : (t == -64) = false := beq_eq_false_iff_ne.2 h0
  rcases Int.lt_or_le t 0 with h1 | h1
  · have hv : signM M t = some (0, 1) := by simp [signM, h0, h1]
    rw [hv]
    have d1 : decide (t < 0) = true := decide_eq_true h1
    clear h hx ht hv h0 h1
    go_enter Tryz.func161, Tryz.ntmps161
    go_wp2
    go_ret3
    exact ⟨rfl, Still.refl _⟩
  obtain ⟨a, rfl⟩ := Int.eq_ofNat_of_zero_le h1
  have d1 : decide ((a : Int) < 0) = false := decide_eq_false (by omega)
  have hneg : ¬ ((a : Int) < 0) := by omega
  rcases Nat.lt_or_ge a M.types.length with h2 | h2
  · obtain ⟨X, hx1⟩ : ∃ X, M.types[a]? = some X := ⟨_, List.getElem?_eq_getElem h2⟩
    have hv : signM M (a : Int) = some (X.ps.length, X.rs.length) := by simp [signM, h0, hneg, hx1]
    rw [hv]
    obtain ⟨tb, to_, pv, rv, rfl, _, ⟨pv', rv', hpr, hp, hr⟩, ct, ct1⟩ := hx.types.get2 a X hx1
    obtain ⟨rfl, rfl⟩ : pv = pv' ∧ rv = rv' := by simpa using hpr
    obtain ⟨pA, pc, rfl, qp⟩ := hp
    obtain ⟨rA, rc, rfl, qr⟩ := hr
    have d2 : decide (M.types.length ≤ a) = false := decide_eq_false (by omega)
    have e0 : (0 : Int) ≤ (a : Int) := by omega
    have e1 : (a : Int) < (M.types.length : Int) := by omega
    have l3 := World.block_lt_of_cell? w _ ct
    clear h hx ht hv h0 h1 hneg h2 hx1 hpr qp qr
    go_enter Tryz.func161, Tryz.ntmps161
    go_wp2_with fail
    go_quiet (fail)
    go_wp2
    go_ret3
    exact ⟨rfl, by repeat (first | exact Still.refl _ | refine Still.drewN ?_ _ | refine Still.drew ?_ | refine Still.alloc ?_ _ | refine Still.setNew ?_ _ _ (by simp))⟩
  · have hv : signM M (a : Int) = none := by simp [signM, h0, hneg, List.getElem?_eq_none h2]
    rw [hv]
    have d2 : decide (M.types.length ≤ a) = true := decide_eq_true (by omega)
    clear h hx ht hv h0 h1 hneg h2
    go_enter Tryz.func161, Tryz.ntmps161
    go_wp2
    go_ret3
    exact ⟨rfl, Still.refl _⟩
end Go.Proofs.YtjbdldekllffkaaGreatDoor
