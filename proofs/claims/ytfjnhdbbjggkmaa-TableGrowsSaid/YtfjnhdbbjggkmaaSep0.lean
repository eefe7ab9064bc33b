/- Chunks of memory that lie apart: what an owner holds, and what stays when something is written. -/
import Derived.WalkKit
import Derived.Laws.AppendOwn
import Derived.Laws.OwnMore
import Derived.ArgAppend
import Derived.Lib.Hide
import Derived.Deep.Draws
set_option linter.unusedVariables false
namespace Go.Sep

open Go.RowKit

/-- cl: cells of a block, from a place on. rw: a row (elements of type e, sz cells each) that has its block alone, or no room at all. -/
inductive Ck where
  | cl (b o : Nat) (vs : List Value)
  | rw (e sz : Nat) (v : Value) (xs : List Value)

/-- The row's block: none of one that has no room. -/
def rowBlock : Value → Option Nat
  | .slice (some a) _ c => if c = 0 then none else some a.block
  | _ => none

def Row (w : World) (e sz : Nat) (v : Value) (xs : List Value) : Prop :=
  ∃ A n c, v = .slice A n c ∧ xs.length = n * sz ∧ (A = none → c = 0) ∧ n ≤ c ∧ c ≤ maxLen ∧
    (0 < c → ∃ g cur, A = some ⟨g, 0, none⟩ ∧ w.heap[g]? = some (.cells cur e (0, 0)) ∧ cur.size = c * sz ∧ cur.toList.take (n * sz) = xs)

def Cells (w : World) (b o : Nat) (vs : List Value) : Prop :=
  ∃ arr t, w.heap[b]? = some (.cells arr t (0, 0)) ∧ ∀ j v, vs[j]? = some v → arr[o + j]? = some v

def Ck.holds (w : World) : Ck → Prop
  | .cl b o vs => Cells w b o vs
  | .rw e sz v xs => Row w e sz v xs

def Ck.block : Ck → Option Nat
  | .cl b _ _ => some b
  | .rw _ _ v _ => rowBlock v

def Ck.apart : Ck → Ck → Prop
  | .cl b o vs, .cl b' o' vs' => b = b' → o + vs.length ≤ o' ∨ o' + vs'.length ≤ o
  | c, c' => ∀ b, c.block = some b → c'.block ≠ some b

theorem Ck.apart_symm {c c' : Ck} (h : c.apart c') : c'.apart c := by
  cases c <;> cases c' <;> simp only [Ck.apart] at h ⊢
  · intro e; exact (h e.symm).symm
  · intro b h1 h2; exact h b h2 h1
  · intro b h1 h2; exact h b h2 h1
  · intro b h1 h2; exact h b h2 h1
theorem Ck.apart_of {c c' : Ck} (h : ∀ b, c.block = some b → c'.block ≠ some b) : c.apart c' := by
  cases c <;> cases c' <;> simp only [Ck.apart] <;> try exact h
  intro e; subst e; exact absurd rfl (h _ rfl)

theorem Row.lt {w : World} {e sz : Nat} {v : Value} {xs : List Value} (h : Row w e sz v xs) {b : Nat} (hb : rowBlock v = some b) : b < w.heap.size := by
  obtain ⟨A, n, c, rfl, _, hA, _, _, hr⟩ := h
  cases A with
  | none => simp [rowBlock] at hb
  | some a =>
    simp only [rowBlock] at hb
    split at hb
    · cases hb
    · rename_i h0
      obtain ⟨g, cur, ha, hg, _⟩ := hr (by omega)
      cases ha
      cases hb
      exact (Array.getElem?_eq_some_iff.1 hg).1
theorem Cells.lt {w : World} {b o : Nat} {vs : List Value} (h : Cells w b o vs) : b < w.heap.size := by
  obtain ⟨arr, t, h, _⟩ := h
  exact (Array.getElem?_eq_some_iff.1 h).1
theorem Ck.lt {w : World} {c : Ck} (h : c.holds w) {b : Nat} (hb : c.block = some b) : b < w.heap.size := by
  cases c with
  | cl b o vs => cases hb; exact Cells.lt h
  | rw e sz v xs => exact Row.lt h hb
theorem Row.move {w w1 : World} {e sz : Nat} {v : Value} {xs : List Value} (h : Row w e sz v xs) (hm : ∀ b, rowBlock v = some b → w1.heap[b]? = w.heap[b]?) : Row w1 e sz v xs := by
  obtain ⟨A, n, c, rfl, h1, hA, h2, h3, hr⟩ := h
  refine ⟨A, n, c, rfl, h1, hA, h2, h3, fun h0 => ?_⟩
  obtain ⟨g, cur, rfl, hg, h4⟩ := hr h0
  refine ⟨g, cur, rfl, ?_, h4⟩
  rw [hm g (by simp [rowBlock]; omega)]
  exact hg
theorem Ck.move {w w1 : World} {c : Ck} (h : c.holds w) (hm : ∀ b, c.block = some b → w1.heap[b]? = w.heap[b]?) : c.holds w1 := by
  cases c with
  | cl b o vs =>
    obtain ⟨arr, t, h1, h2⟩ := h
    exact ⟨arr, t, (hm b rfl).trans h1, h2⟩
  | rw e sz v xs => exact Row.move h hm

section
variable {κ : Type}
/-- What is held: chunks by their names, each apart from the others; S: blocks that are only read. -/
structure Sep (w : World) (S : Nat → Prop) (L : κ → Option Ck) : Prop where
  holds : ∀ k c, L k = some c → c.holds w
  apart : ∀ k k' c c', k ≠ k' → L k = some c → L k' = some c' → c.apart c'
  ro : ∀ k c b, L k = some c → c.block = some b → ¬ S b
  lt : ∀ b, S b → b < w.heap.size
/-- What is only read is as it was. -/
def Ro (S : Nat → Prop) (w w' : World) : Prop := w.heap.size ≤ w'.heap.size ∧ ∀ b, S b → w'.heap[b]? = w.heap[b]?
theorem Ro.refl (S : Nat → Prop) (w : World) : Ro S w w := ⟨Nat.le_refl _, fun _ _ => rfl⟩
theorem Ro.trans {S S' : Nat → Prop} {a b c : World} (h : Ro S a b) (k : Ro S' b c) (hS : ∀ x, S x → S' x) : Ro S a c := ⟨Nat.le_trans h.1 k.1, fun x hx => (k.2 x (hS x hx)).trans (h.2 x hx)⟩
theorem Ro.trans' {S : Nat → Prop} {a b c : World} (h : Ro S a b) (k : Ro S b c) : Ro S a c := h.trans k fun _ h => h
end

section
variable {κ : Type} {w w1 : World} {S : Nat → Prop} {L : κ → Option Ck}
open Classical in
noncomputable def upd (L : κ → Option Ck) (k : κ) (c : Ck) : κ → Option Ck := fun k' => if k' = k then some c else L k'
theorem upd_same (L : κ → Option Ck) (k : κ) (c : Ck) : upd L k c k = some c := by simp [upd]
theorem upd_other (L : κ → Option Ck) {k k' : κ} (c : Ck) (h : k' ≠ k) : upd L k c k' = L k' := by simp [upd, h]
/-- The mover: one chunk is turned (or new), of the others' blocks nothing has changed. -/
theorem Sep.put (h : Sep w S L) (k : κ) (c : Ck) (hc : c.holds w1) (hsz : w.heap.size ≤ w1.heap.size) (hk : ∀ k' c', k' ≠ k → L k' = some c' → c'.holds w1 ∧ c.apart c')
    (hS : ∀ b, c.block = some b → ¬ S b) : Sep w1 S (upd L k c) := by
  refine ⟨fun k' c' e => ?_, fun k1 k2 c1 c2 hne e1 e2 => ?_, fun k' c' b e hb => ?_, fun b hb => Nat.lt_of_lt_of_le (h.lt b hb) hsz⟩
  · by_cases e' : k' = k
    · subst e'; rw [upd_same] at e; cases e; exact hc
    · rw [upd_other L c e'] at e; exact (hk k' c' e' e).1
  · by_cases e1' : k1 = k
    · subst e1'
      rw [upd_same] at e1; cases e1
      rw [upd_other L c (Ne.symm hne)] at e2
      exact (hk k2 c2 (Ne.symm hne) e2).2
    · rw [upd_other L c e1'] at e1
      by_cases e2' : k2 = k
      · subst e2'
        rw [upd_same] at e2; cases e2
        exact Ck.apart_symm (hk k1 c1 e1' e1).2
      · rw [upd_other L c e2'] at e2
        exact h.apart k1 k2 c1 c2 hne e1 e2
  · by_cases e' : k' = k
    · subst e'; rw [upd_same] at e; cases e; exact hS b hb
    · rw [upd_other L c e'] at e; exact h.ro k' c' b e hb
/-- Nothing that is held has changed. -/
theorem Sep.still (h : Sep w S L) (hsz : w.heap.size ≤ w1.heap.size) (hm : ∀ b, b < w.heap.size → w1.heap[b]? = w.heap[b]?) : Sep w1 S L :=
  ⟨fun k c e => Ck.move (h.holds k c e) fun b hb => hm b (Ck.lt (h.holds k c e) hb), h.apart, h.ro, fun b hb => Nat.lt_of_lt_of_le (h.lt b hb) hsz⟩
theorem Sep.alloc (h : Sep w S L) (o : Obj) : Sep (w.alloc o) S L := h.still (by simp) fun b hb => heap_alloc_old w o hb
theorem Sep.drewN (h : Sep w S L) (n : Nat) : Sep (w.drewN n) S L := h.still (Nat.le_refl _) fun _ _ => rfl
theorem Sep.drew (h : Sep w S L) : Sep w.drew S L := h.still (Nat.le_refl _) fun _ _ => rfl
/-- More is only read. -/
theorem Sep.more {S' : Nat → Prop} (h : Sep w S L) (hS : ∀ k c b, L k = some c → c.block = some b → ¬ S' b) (hlt : ∀ b, S' b → b < w.heap.size) : Sep w S' L := ⟨h.holds, h.apart, hS, hlt⟩
open Classical in
/-- A chunk is let go. -/
noncomputable def del (L : κ → Option Ck) (k : κ) : κ → Option Ck := fun k' => if k' = k then none else L k'
theorem del_same (L : κ → Option Ck) (k : κ) : del L k k = none := by simp [del]
theorem del_other (L : κ → Option Ck) {k k' : κ} (h : k' ≠ k) : del L k k' = L k' := by simp [del, h]
theorem Sep.sub {L' : κ → Option Ck} (h : Sep w S L) (hL : ∀ k c, L' k = some c → L k = some c) : Sep w S L' :=
  ⟨fun k c e => h.holds k c (hL k c e), fun k k' c c' hn e e' => h.apart k k' c c' hn (hL k c e) (hL k' c' e'), fun k c b e => h.ro k c b (hL k c e), h.lt⟩
theorem Sep.del (h : Sep w S L) (k : κ) : Sep w S (Sep.del L k) := h.sub fun k' c e => by
  by_cases ek : k' = k
  · subst ek; rw [del_same] at e; cases e
  · rwa [del_other L ek] at e

/-! ### cells -/
theorem setCell_heap {c : Array Value} {t : TypeId} {fz : Nat × Nat} (b i : Nat) (x : Value) (hb : w.heap[b]? = some (.cells c t fz)) (k : Nat) :
    (w.setCell ⟨b, i, none⟩ x).heap[k]? = if k = b then some (.cells (c.setIfInBounds i x) t fz) else w.heap[k]? := by
  simp only [World.setCell, Array.getElem?_modify]
  by_cases e : b = k
  · subst e; rw [if_pos rfl, if_pos rfl, hb]; obtain ⟨a, b⟩ := fz; rfl
  · rw [if_neg e, if_neg (fun e' => e e'.symm)]
theorem Sep.cells (h : Sep w S L) {k : κ} {b o : Nat} {vs : List Value} (e : L k = some (.cl b o vs)) : Cells w b o vs := h.holds k _ e
theorem Cells.cell {b o : Nat} {vs : List Value} (h : Cells w b o vs) (j : Nat) (v : Value) (hv : vs[j]? = some v) : w.cell? ⟨b, o + j, none⟩ = some v := by
  obtain ⟨arr, t, h1, h2⟩ := h
  simp [World.cell?, h1, h2 j v hv]
theorem Cells.frozen {b o : Nat} {vs : List Value} (h : Cells w b o vs) (j : Nat) : w.frozen? ⟨b, j, none⟩ = false := by
  obtain ⟨arr, t, h1, h2⟩ := h
  simp [World.frozen?, h1]
theorem Sep.cell (h : Sep w S L) {k : κ} {b o : Nat} {vs : List Value} (e : L k = some (.cl b o vs)) (j : Nat) (v : Value) (hv : vs[j]? = some v) : w.cell? ⟨b, o + j, none⟩ = some v := (h.cells e).cell j v hv
theorem Sep.cell0 (h : Sep w S L) {k : κ} {b : Nat} {vs : List Value} (e : L k = some (.cl b 0 vs)) (j : Nat) (v : Value) (hv : vs[j]? = some v) : w.cell? ⟨b, j, none⟩ = some v := by
  have := h.cell e j v hv
  rwa [Nat.zero_add] at this
theorem Sep.cellA (h : Sep w S L) {k : κ} {b o : Nat} {v : Value} {vs : List Value} (e : L k = some (.cl b o (v :: vs))) : w.cell? ⟨b, o, none⟩ = some v := h.cell e 0 v rfl
theorem Sep.frozen (h : Sep w S L) {k : κ} {b o : Nat} {vs : List Value} (e : L k = some (.cl b o vs)) (j : Nat) : w.frozen? ⟨b, j, none⟩ = false := (h.cells e).frozen j
/-- A cell is set. -/
theorem Sep.set (h : Sep w S L) {k : κ} {b o : Nat} {vs : List Value} (e : L k = some (.cl b o vs)) (j : Nat) (hj : j < vs.length) (x : Value) :
    Sep (w.setCell ⟨b, o + j, none⟩ x) S (upd L k (.cl b o (vs.set j x))) := by
  obtain ⟨arr, t, h1, h2⟩ := h.cells e
  have hh := setCell_heap (o + j) x h1 (b := b)
  have hsz : (w.setCell ⟨b, o + j, none⟩ x).heap.size = w.heap.size := by simp [World.setCell]
  have hin : o + j < arr.size := by
    have := h2 j _ (List.getElem?_eq_getElem hj)
    exact (Array.getElem?_eq_some_iff.1 this).1
  refine h.put k _ ?_ (by omega) ?_ (fun b' hb' => h.ro k _ b' e hb')
  · refine ⟨arr.setIfInBounds (o + j) x, t, by rw [hh, if_pos rfl], fun i v hv => ?_⟩
    rw [List.getElem?_set] at hv
    rw [Array.getElem?_setIfInBounds]
    by_cases ei : j = i
    · subst ei
      rw [if_pos rfl, if_pos hj] at hv
      cases hv
      rw [if_pos rfl, if_pos hin]
    · rw [if_neg ei] at hv
      rw [if_neg (by omega)]
      exact h2 i v hv
  · intro k' c' hne e'
    have hap := h.apart k k' _ _ (Ne.symm hne) e e'
    cases c' with
    | cl b' o' vs' =>
      refine ⟨?_, ?_⟩
      · obtain ⟨arr', t', g1, g2⟩ := h.cells e'
        by_cases eb : b' = b
        · subst eb
          rw [h1] at g1
          cases g1
          refine ⟨_, t, by rw [hh, if_pos rfl], fun i v hv => ?_⟩
          rw [Array.getElem?_setIfInBounds, if_neg]
          · exact g2 i v hv
          · intro eo
            have hi : i < vs'.length := (List.getElem?_eq_some_iff.1 hv).1
            have := hap rfl
            omega
        · exact ⟨arr', t', by rw [hh, if_neg eb]; exact g1, g2⟩
      · intro eb
        rw [List.length_set]
        exact hap eb
    | rw e2 sz2 v2 xs2 =>
      have hne2 : ∀ b', (Ck.rw e2 sz2 v2 xs2).block = some b' → b' ≠ b := fun b' hb' eb => hap b rfl (by rw [hb', eb])
      refine ⟨Ck.move (h.holds k' _ e') fun b' hb' => by rw [hh, if_neg (hne2 b' hb')], ?_⟩
      exact fun b' hb' hb2 => hap b' hb' hb2
theorem Sep.set0 (h : Sep w S L) {k : κ} {b : Nat} {vs : List Value} (e : L k = some (.cl b 0 vs)) (j : Nat) (hj : j < vs.length) (x : Value) :
    Sep (w.setCell ⟨b, j, none⟩ x) S (upd L k (.cl b 0 (vs.set j x))) := by
  have := h.set e j hj x
  rwa [Nat.zero_add] at this
theorem Sep.ro_setCell (h : Sep w S L) {k : κ} {b o : Nat} {vs : List Value} (e : L k = some (.cl b o vs)) (i : Nat) (x : Value) : Ro S w (w.setCell ⟨b, i, none⟩ x) := by
  obtain ⟨arr, t, h1, _⟩ := h.cells e
  refine ⟨by simp [World.setCell], fun b' hb' => ?_⟩
  rw [setCell_heap i x h1 (b := b), if_neg]
  rintro rfl
  exact h.ro k _ b' e rfl hb'
/-- New cells. -/
theorem Sep.new (h : Sep w S L) (k : κ) (arr : Array Value) (t : TypeId) (hk : L k = none) : Sep (w.alloc (.cells arr t)) S (upd L k (.cl w.heap.size 0 arr.toList)) := by
  refine h.put k _ ⟨arr, t, heap_alloc_new w _, fun j v hv => by simpa using hv⟩ (by simp) (fun k' c' hne e' => ?_) (fun b hb hS => ?_)
  · refine ⟨Ck.move (h.holds k' c' e') fun b hb => heap_alloc_old w _ (Ck.lt (h.holds k' c' e') hb), ?_⟩
    refine Ck.apart_of fun b hb hb' => ?_
    cases hb
    have := Ck.lt (h.holds k' c' e') hb'
    omega
  · cases hb
    have := h.lt _ hS
    omega
/-- A row that has no block. -/
theorem Sep.nilRow (h : Sep w S L) (k : κ) (e sz : Nat) (A : Option Addr) : Sep w S (upd L k (.rw e sz (.slice A 0 0) [])) := by
  have hb : rowBlock (.slice A 0 0) = Option.none := by cases A <;> simp [rowBlock]
  refine h.put k _ ⟨A, 0, 0, rfl, by simp, fun _ => rfl, Nat.le_refl _, by simp [maxLen], fun h => by omega⟩ (Nat.le_refl _) (fun k' c' hne e' => ⟨h.holds k' c' e', Ck.apart_of fun b hb' => ?_⟩) (fun b hb' => ?_)
  · have hb' : rowBlock (.slice A 0 0) = some b := hb'
    rw [hb] at hb'; cases hb'
  · have hb' : rowBlock (.slice A 0 0) = some b := hb'
    rw [hb] at hb'; cases hb'
/-- A chunk gets another name, and what had it is let go. -/
theorem Sep.name (h : Sep w S L) {k k' : κ} {c : Ck} (e : L k = some c) : Sep w S (upd (Go.Sep.del L k) k' c) := by
  refine (h.del k).put k' c (h.holds k c e) (Nat.le_refl _) (fun k2 c2 hne e2 => ?_) (fun b hb => h.ro k c b e hb)
  have hk : k2 ≠ k := by rintro rfl; rw [del_same] at e2; cases e2
  rw [del_other L hk] at e2
  exact ⟨h.holds k2 c2 e2, h.apart k k2 c c2 (Ne.symm hk) e e2⟩
/-- Five cells, from a place on, laid anew. -/
theorem Sep.set5 (h : Sep w S L) {k : κ} {b o : Nat} {v0 v1 v2 v3 v4 : Value} (e : L k = some (.cl b o [v0, v1, v2, v3, v4])) (x0 x1 x2 x3 x4 : Value) :
    Sep (((((w.setCell ⟨b, o, none⟩ x0).setCell ⟨b, o + 1, none⟩ x1).setCell ⟨b, o + 2, none⟩ x2).setCell ⟨b, o + 3, none⟩ x3).setCell ⟨b, o + 4, none⟩ x4) S (upd L k (.cl b o [x0, x1, x2, x3, x4])) ∧
    Ro S w (((((w.setCell ⟨b, o, none⟩ x0).setCell ⟨b, o + 1, none⟩ x1).setCell ⟨b, o + 2, none⟩ x2).setCell ⟨b, o + 3, none⟩ x3).setCell ⟨b, o + 4, none⟩ x4) := by
  have s0 := h.set e 0 (by simp) x0
  have s1 := s0.set (upd_same _ _ _) 1 (by simp) x1
  have s2 := s1.set (upd_same _ _ _) 2 (by simp) x2
  have s3 := s2.set (upd_same _ _ _) 3 (by simp) x3
  have s4 := s3.set (upd_same _ _ _) 4 (by simp) x4
  have r0 := h.ro_setCell e o x0
  have r1 := s0.ro_setCell (upd_same _ _ _) (o + 1) x1
  have r2 := s1.ro_setCell (upd_same _ _ _) (o + 2) x2
  have r3 := s2.ro_setCell (upd_same _ _ _) (o + 3) x3
  have r4 := s3.ro_setCell (upd_same _ _ _) (o + 4) x4
  refine ⟨?_, (((r0.trans' r1).trans' r2).trans' r3).trans' r4⟩
  have hup : ∀ (L : κ → Option Ck) (k : κ) (c c' : Ck), upd (upd L k c) k c' = upd L k c' := by
    intro L k c c'
    funext k'
    by_cases ek : k' = k
    · subst ek; rw [upd_same, upd_same]
    · rw [upd_other _ _ ek, upd_other _ _ ek, upd_other _ _ ek]
  simp only [hup] at s4
  exact s4
/-- A row has been written, or laid anew. -/
theorem Sep.grow (h : Sep w S L) {k : κ} {e sz : Nat} {v v1 : Value} {xs zs : List Value} (e0 : L k = some (.rw e sz v xs)) (hr : Row w1 e sz v1 zs) (hg : w.grownBy w1 (rowBlock v))
    (ha : rowBlock v1 = rowBlock v ∨ ∃ b, rowBlock v1 = some b ∧ w.heap.size ≤ b) : Sep w1 S (upd L k (.rw e sz v1 zs)) ∧ Ro S w w1 := by
  have hold := h.holds k _ e0
  refine ⟨h.put k _ hr hg.size (fun k' c' hne e' => ?_) (fun b hb hS => ?_), hg.size, fun b hb => ?_⟩
  · have hap := h.apart k k' _ _ (Ne.symm hne) e0 e'
    have hap' : ∀ b, c'.block = some b → some b ≠ rowBlock v := by
      intro b hb hv
      have h2 := Ck.apart_symm hap
      cases c' with
      | cl b' o' vs' => exact h2 b hb hv.symm
      | rw e2 sz2 v2 xs2 => exact h2 b hb hv.symm
    refine ⟨Ck.move (h.holds k' c' e') fun b hb => hg.block b (Ck.lt (h.holds k' c' e') hb) (hap' b hb), ?_⟩
    refine Ck.apart_of fun b hb hb' => ?_
    have hb : rowBlock v1 = some b := hb
    rcases ha with ha | ⟨b2, hb2, hlt⟩
    · exact hap' b hb' (by rw [← ha, hb])
    · rw [hb2] at hb
      cases hb
      have := Ck.lt (h.holds k' c' e') hb'
      omega
  · have hb : rowBlock v1 = some b := hb
    rcases ha with ha | ⟨b2, hb2, hlt⟩
    · exact h.ro k _ b e0 (by show rowBlock v = some b; rw [← ha, hb]) hS
    · rw [hb2] at hb
      cases hb
      have := h.lt _ hS
      omega
  · exact hg.block b (h.lt b hb) fun hv => h.ro k _ b e0 hv.symm hb
theorem Sep.grown_cell (h : Sep w S L) {k k' : κ} {e sz : Nat} {v : Value} {xs : List Value} (e0 : L k = some (.rw e sz v xs)) (hg : w.grownBy w1 (rowBlock v)) {b o : Nat} {vs : List Value} (e1 : L k' = some (.cl b o vs)) (a : Addr) (ha : a.block = b) :
    w1.cell? a = w.cell? a ∧ w1.frozen? a = w.frozen? a := by
  have hb : w1.heap[a.block]? = w.heap[a.block]? := by
    rw [ha]
    refine hg.block b ((h.cells e1).lt) fun hv => ?_
    have hne : k ≠ k' := by rintro rfl; rw [e0] at e1; cases e1
    exact h.apart k k' _ _ hne e0 e1 b hv.symm rfl
  exact ⟨World.cell?_of_block hb, World.frozen?_of_block hb⟩
end
end Go.Sep
