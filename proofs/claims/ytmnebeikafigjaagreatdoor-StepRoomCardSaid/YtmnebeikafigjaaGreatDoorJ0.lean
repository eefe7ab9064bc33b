/- Lemmas of the walk, part 0. -/
import Derived.WalkKit
import Derived.Laws.AppendOwn
import Derived.Laws.OwnMore
import Derived.ArgAppend
import Derived.Lib.Hide
import Derived.Deep.Draws
import Derived.Maps.AppendAt
import Derived.Deep.Slices
import Derived.Deep.AppendLies
import Derived.RegionTactic
import Derived.Deep.RegionHeld
import Derived.Test.YtmnebeikafigjaaGreatDoorProg
import Derived.KernelRfl
import Derived.Deep.RegionLaw
import Derived.WalkSpells
import Derived.Outline
import Derived.BigRegion
import Derived.BigQuiet
import Derived.Deep.QuietTactic
import Derived.OrdersHeld
import Derived.Deep.RegionHeld3
/- Chunks of memory that lie apart: what an owner holds, and what stays when something is written. -/
set_option linter.unusedVariables false
namespace Go.Sep

open Go.RowKit

/-- cl: cells of a block, from a place on. rw: a row (elements of type e, sz cells each) that has its block alone, or no room at all. -/
inductive Ck where
  | cl (b o : Nat) (vs : List Value)
  | rw (e sz : Nat) (v : Value) (xs : List Value)

/-- The row's block: none of one that has no room. -/
def rowBlock : Value → Option Nat
  | .slice (some a) _ c => if c = 0 then none else some a.block
  | _ => none

def Row (w : World) (e sz : Nat) (v : Value) (xs : List Value) : Prop :=
  ∃ A n c, v = .slice A n c ∧ xs.length = n * sz ∧ (A = none → c = 0) ∧ n ≤ c ∧ c ≤ maxLen ∧
    (0 < c → ∃ g cur, A = some ⟨g, 0, none⟩ ∧ w.heap[g]? = some (.cells cur e (0, 0)) ∧ cur.size = c * sz ∧ cur.toList.take (n * sz) = xs)

def Cells (w : World) (b o : Nat) (vs : List Value) : Prop :=
  ∃ arr t, w.heap[b]? = some (.cells arr t (0, 0)) ∧ ∀ j v, vs[j]? = some v → arr[o + j]? = some v

def Ck.holds (w : World) : Ck → Prop
  | .cl b o vs => Cells w b o vs
  | .rw e sz v xs => Row w e sz v xs

def Ck.block : Ck → Option Nat
  | .cl b _ _ => some b
  | .rw _ _ v _ => rowBlock v

def Ck.apart : Ck → Ck → Prop
  | .cl b o vs, .cl b' o' vs' => b = b' → o + vs.length ≤ o' ∨ o' + vs'.length ≤ o
  | c, c' => ∀ b, c.block = some b → c'.block ≠ some b

theorem Ck.apart_symm {c c' : Ck} (h : c.apart c') : c'.apart c := by
  cases c <;> cases c' <;> simp only [Ck.apart] at h ⊢
  · intro e; exact (h e.symm).symm
  · intro b h1 h2; exact h b h2 h1
  · intro b h1 h2; exact h b h2 h1
  · intro b h1 h2; exact h b h2 h1
theorem Ck.apart_of {c c' : Ck} (h : ∀ b, c.block = some b → c'.block ≠ some b) : c.apart c' := by
  cases c <;> cases c' <;> simp only [Ck.apart] <;> try exact h
  intro e; subst e; exact absurd rfl (h _ rfl)

theorem Row.lt {w : World} {e sz : Nat} {v : Value} {xs : List Value} (h : Row w e sz v xs) {b : Nat} (hb : rowBlock v = some b) : b < w.heap.size := by
  obtain ⟨A, n, c, rfl, _, hA, _, _, hr⟩ := h
  cases A with
  | none => simp [rowBlock] at hb
  | some a =>
    simp only [rowBlock] at hb
    split at hb
    · cases hb
    · rename_i h0
      obtain ⟨g, cur, ha, hg, _⟩ := hr (by omega)
      cases ha
      cases hb
      exact (Array.getElem?_eq_some_iff.1 hg).1
theorem Cells.lt {w : World} {b o : Nat} {vs : List Value} (h : Cells w b o vs) : b < w.heap.size := by
  obtain ⟨arr, t, h, _⟩ := h
  exact (Array.getElem?_eq_some_iff.1 h).1
theorem Ck.lt {w : World} {c : Ck} (h : c.holds w) {b : Nat} (hb : c.block = some b) : b < w.heap.size := by
  cases c with
  | cl b o vs => cases hb; exact Cells.lt h
  | rw e sz v xs => exact Row.lt h hb
theorem Row.move {w w1 : World} {e sz : Nat} {v : Value} {xs : List Value} (h : Row w e sz v xs) (hm : ∀ b, rowBlock v = some b → w1.heap[b]? = w.heap[b]?) : Row w1 e sz v xs := by
  obtain ⟨A, n, c, rfl, h1, hA, h2, h3, hr⟩ := h
  refine ⟨A, n, c, rfl, h1, hA, h2, h3, fun h0 => ?_⟩
  obtain ⟨g, cur, rfl, hg, h4⟩ := hr h0
  refine ⟨g, cur, rfl, ?_, h4⟩
  rw [hm g (by simp [rowBlock]; omega)]
  exact hg
theorem Ck.move {w w1 : World} {c : Ck} (h : c.holds w) (hm : ∀ b, c.block = some b → w1.heap[b]? = w.heap[b]?) : c.holds w1 := by
  cases c with
  | cl b o vs =>
    obtain ⟨arr, t, h1, h2⟩ := h
    exact ⟨arr, t, (hm b rfl).trans h1, h2⟩
  | rw e sz v xs => exact Row.move h hm

section
variable {κ : Type}
/-- What is held: chunks by their names, each apart from the others; S: blocks that are only read. -/
structure Sep (w : World) (S : Nat → Prop) (L : κ → Option Ck) : Prop where
  holds : ∀ k c, L k = some c → c.holds w
  apart : ∀ k k' c c', k ≠ k' → L k = some c → L k' = some c' → c.apart c'
  ro : ∀ k c b, L k = some c → c.block = some b → ¬ S b
  lt : ∀ b, S b → b < w.heap.size
/-- What is only read is as it was. -/
def Ro (S : Nat → Prop) (w w' : World) : Prop := (w.heap.size ≤ w'.heap.size ∧ w'.os = w.os ∧ w'.output = w.output) ∧ ∀ b, S b → w'.heap[b]? = w.heap[b]?
theorem Ro.refl (S : Nat → Prop) (w : World) : Ro S w w := ⟨⟨Nat.le_refl _, rfl, rfl⟩, fun _ _ => rfl⟩
theorem Ro.trans {S S' : Nat → Prop} {a b c : World} (h : Ro S a b) (k : Ro S' b c) (hS : ∀ x, S x → S' x) : Ro S a c := ⟨⟨Nat.le_trans h.1.1 k.1.1, k.1.2.1.trans h.1.2.1, k.1.2.2.trans h.1.2.2⟩, fun x hx => (k.2 x (hS x hx)).trans (h.2 x hx)⟩
theorem Ro.trans' {S : Nat → Prop} {a b c : World} (h : Ro S a b) (k : Ro S b c) : Ro S a c := h.trans k fun _ h => h
end

section
variable {κ : Type} {w w1 : World} {S : Nat → Prop} {L : κ → Option Ck}
open Classical in
noncomputable def upd (L : κ → Option Ck) (k : κ) (c : Ck) : κ → Option Ck := fun k' => if k' = k then some c else L k'
theorem upd_same (L : κ → Option Ck) (k : κ) (c : Ck) : upd L k c k = some c := by simp [upd]
theorem upd_other (L : κ → Option Ck) {k k' : κ} (c : Ck) (h : k' ≠ k) : upd L k c k' = L k' := by simp [upd, h]
/-- The mover: one chunk is turned (or new), of the others' blocks nothing has changed. -/
theorem Sep.put (h : Sep w S L) (k : κ) (c : Ck) (hc : c.holds w1) (hsz : w.heap.size ≤ w1.heap.size) (hk : ∀ k' c', k' ≠ k → L k' = some c' → c'.holds w1 ∧ c.apart c')
    (hS : ∀ b, c.block = some b → ¬ S b) : Sep w1 S (upd L k c) := by
  refine ⟨fun k' c' e => ?_, fun k1 k2 c1 c2 hne e1 e2 => ?_, fun k' c' b e hb => ?_, fun b hb => Nat.lt_of_lt_of_le (h.lt b hb) hsz⟩
  · by_cases e' : k' = k
    · subst e'; rw [upd_same] at e; cases e; exact hc
    · rw [upd_other L c e'] at e; exact (hk k' c' e' e).1
  · by_cases e1' : k1 = k
    · subst e1'
      rw [upd_same] at e1; cases e1
      rw [upd_other L c (Ne.symm hne)] at e2
      exact (hk k2 c2 (Ne.symm hne) e2).2
    · rw [upd_other L c e1'] at e1
      by_cases e2' : k2 = k
      · subst e2'
        rw [upd_same] at e2; cases e2
        exact Ck.apart_symm (hk k1 c1 e1' e1).2
      · rw [upd_other L c e2'] at e2
        exact h.apart k1 k2 c1 c2 hne e1 e2
  · by_cases e' : k' = k
    · subst e'; rw [upd_same] at e; cases e; exact hS b hb
    · rw [upd_other L c e'] at e; exact h.ro k' c' b e hb
/-- Nothing that is held has changed. -/
theorem Sep.still (h : Sep w S L) (hsz : w.heap.size ≤ w1.heap.size) (hm : ∀ b, b < w.heap.size → w1.heap[b]? = w.heap[b]?) : Sep w1 S L :=
  ⟨fun k c e => Ck.move (h.holds k c e) fun b hb => hm b (Ck.lt (h.holds k c e) hb), h.apart, h.ro, fun b hb => Nat.lt_of_lt_of_le (h.lt b hb) hsz⟩
theorem Sep.alloc (h : Sep w S L) (o : Obj) : Sep (w.alloc o) S L := h.still (by simp) fun b hb => heap_alloc_old w o hb
theorem Sep.drewN (h : Sep w S L) (n : Nat) : Sep (w.drewN n) S L := h.still (Nat.le_refl _) fun _ _ => rfl
theorem Sep.drew (h : Sep w S L) : Sep w.drew S L := h.still (Nat.le_refl _) fun _ _ => rfl
/-- More is only read. -/
theorem Sep.more {S' : Nat → Prop} (h : Sep w S L) (hS : ∀ k c b, L k = some c → c.block = some b → ¬ S' b) (hlt : ∀ b, S' b → b < w.heap.size) : Sep w S' L := ⟨h.holds, h.apart, hS, hlt⟩
open Classical in
/-- A chunk is let go. -/
noncomputable def del (L : κ → Option Ck) (k : κ) : κ → Option Ck := fun k' => if k' = k then none else L k'
theorem del_same (L : κ → Option Ck) (k : κ) : del L k k = none := by simp [del]
theorem del_other (L : κ → Option Ck) {k k' : κ} (h : k' ≠ k) : del L k k' = L k' := by simp [del, h]
theorem Sep.sub {L' : κ → Option Ck} (h : Sep w S L) (hL : ∀ k c, L' k = some c → L k = some c) : Sep w S L' :=
  ⟨fun k c e => h.holds k c (hL k c e), fun k k' c c' hn e e' => h.apart k k' c c' hn (hL k c e) (hL k' c' e'), fun k c b e => h.ro k c b (hL k c e), h.lt⟩
theorem Sep.del (h : Sep w S L) (k : κ) : Sep w S (Sep.del L k) := h.sub fun k' c e => by
  by_cases ek : k' = k
  · subst ek; rw [del_same] at e; cases e
  · rwa [del_other L ek] at e

/-! ### cells -/
theorem setCell_heap {c : Array Value} {t : TypeId} {fz : Nat × Nat} (b i : Nat) (x : Value) (hb : w.heap[b]? = some (.cells c t fz)) (k : Nat) :
    (w.setCell ⟨b, i, none⟩ x).heap[k]? = if k = b then some (.cells (c.setIfInBounds i x) t fz) else w.heap[k]? := by
  simp only [World.setCell, Array.getElem?_modify]
  by_cases e : b = k
  · subst e; rw [if_pos rfl, if_pos rfl, hb]; obtain ⟨a, b⟩ := fz; rfl
  · rw [if_neg e, if_neg (fun e' => e e'.symm)]
theorem Sep.cells (h : Sep w S L) {k : κ} {b o : Nat} {vs : List Value} (e : L k = some (.cl b o vs)) : Cells w b o vs := h.holds k _ e
theorem Cells.cell {b o : Nat} {vs : List Value} (h : Cells w b o vs) (j : Nat) (v : Value) (hv : vs[j]? = some v) : w.cell? ⟨b, o + j, none⟩ = some v := by
  obtain ⟨arr, t, h1, h2⟩ := h
  simp [World.cell?, h1, h2 j v hv]
theorem Cells.frozen {b o : Nat} {vs : List Value} (h : Cells w b o vs) (j : Nat) : w.frozen? ⟨b, j, none⟩ = false := by
  obtain ⟨arr, t, h1, h2⟩ := h
  simp [World.frozen?, h1]
theorem Sep.cell (h : Sep w S L) {k : κ} {b o : Nat} {vs : List Value} (e : L k = some (.cl b o vs)) (j : Nat) (v : Value) (hv : vs[j]? = some v) : w.cell? ⟨b, o + j, none⟩ = some v := (h.cells e).cell j v hv
theorem Sep.cell0 (h : Sep w S L) {k : κ} {b : Nat} {vs : List Value} (e : L k = some (.cl b 0 vs)) (j : Nat) (v : Value) (hv : vs[j]? = some v) : w.cell? ⟨b, j, none⟩ = some v := by
  have := h.cell e j v hv
  rwa [Nat.zero_add] at this
theorem Sep.cellA (h : Sep w S L) {k : κ} {b o : Nat} {v : Value} {vs : List Value} (e : L k = some (.cl b o (v :: vs))) : w.cell? ⟨b, o, none⟩ = some v := h.cell e 0 v rfl
theorem Sep.frozen (h : Sep w S L) {k : κ} {b o : Nat} {vs : List Value} (e : L k = some (.cl b o vs)) (j : Nat) : w.frozen? ⟨b, j, none⟩ = false := (h.cells e).frozen j
/-- A cell is set. -/
theorem Sep.set (h : Sep w S L) {k : κ} {b o : Nat} {vs : List Value} (e : L k = some (.cl b o vs)) (j : Nat) (hj : j < vs.length) (x : Value) :
    Sep (w.setCell ⟨b, o + j, none⟩ x) S (upd L k (.cl b o (vs.set j x))) := by
  obtain ⟨arr, t, h1, h2⟩ := h.cells e
  have hh := setCell_heap (o + j) x h1 (b := b)
  have hsz : (w.setCell ⟨b, o + j, none⟩ x).heap.size = w.heap.size := by simp [World.setCell]
  have hin : o + j < arr.size := by
    have := h2 j _ (List.getElem?_eq_getElem hj)
    exact (Array.getElem?_eq_some_iff.1 this).1
  refine h.put k _ ?_ (by omega) ?_ (fun b' hb' => h.ro k _ b' e hb')
  · refine ⟨arr.setIfInBounds (o + j) x, t, by rw [hh, if_pos rfl], fun i v hv => ?_⟩
    rw [List.getElem?_set] at hv
    rw [Array.getElem?_setIfInBounds]
    by_cases ei : j = i
    · subst ei
      rw [if_pos rfl, if_pos hj] at hv
      cases hv
      rw [if_pos rfl, if_pos hin]
    · rw [if_neg ei] at hv
      rw [if_neg (by omega)]
      exact h2 i v hv
  · intro k' c' hne e'
    have hap := h.apart k k' _ _ (Ne.symm hne) e e'
    cases c' with
    | cl b' o' vs' =>
      refine ⟨?_, ?_⟩
      · obtain ⟨arr', t', g1, g2⟩ := h.cells e'
        by_cases eb : b' = b
        · subst eb
          rw [h1] at g1
          cases g1
          refine ⟨_, t, by rw [hh, if_pos rfl], fun i v hv => ?_⟩
          rw [Array.getElem?_setIfInBounds, if_neg]
          · exact g2 i v hv
          · intro eo
            have hi : i < vs'.length := (List.getElem?_eq_some_iff.1 hv).1
            have := hap rfl
            omega
        · exact ⟨arr', t', by rw [hh, if_neg eb]; exact g1, g2⟩
      · intro eb
        rw [List.length_set]
        exact hap eb
    | rw e2 sz2 v2 xs2 =>
      have hne2 : ∀ b', (Ck.rw e2 sz2 v2 xs2).block = some b' → b' ≠ b := fun b' hb' eb => hap b rfl (by rw [hb', eb])
      refine ⟨Ck.move (h.holds k' _ e') fun b' hb' => by rw [hh, if_neg (hne2 b' hb')], ?_⟩
      exact fun b' hb' hb2 => hap b' hb' hb2
theorem Sep.set0 (h : Sep w S L) {k : κ} {b : Nat} {vs : List Value} (e : L k = some (.cl b 0 vs)) (j : Nat) (hj : j < vs.length) (x : Value) :
    Sep (w.setCell ⟨b, j, none⟩ x) S (upd L k (.cl b 0 (vs.set j x))) := by
  have := h.set e j hj x
  rwa [Nat.zero_add] at this
theorem Sep.ro_setCell (h : Sep w S L) {k : κ} {b o : Nat} {vs : List Value} (e : L k = some (.cl b o vs)) (i : Nat) (x : Value) : Ro S w (w.setCell ⟨b, i, none⟩ x) := by
  obtain ⟨arr, t, h1, _⟩ := h.cells e
  refine ⟨⟨by simp [World.setCell], rfl, rfl⟩, fun b' hb' => ?_⟩
  rw [setCell_heap i x h1 (b := b), if_neg]
  rintro rfl
  exact h.ro k _ b' e rfl hb'
/-- New cells. -/
theorem Sep.new (h : Sep w S L) (k : κ) (arr : Array Value) (t : TypeId) (hk : L k = none) : Sep (w.alloc (.cells arr t)) S (upd L k (.cl w.heap.size 0 arr.toList)) := by
  refine h.put k _ ⟨arr, t, heap_alloc_new w _, fun j v hv => by simpa using hv⟩ (by simp) (fun k' c' hne e' => ?_) (fun b hb hS => ?_)
  · refine ⟨Ck.move (h.holds k' c' e') fun b hb => heap_alloc_old w _ (Ck.lt (h.holds k' c' e') hb), ?_⟩
    refine Ck.apart_of fun b hb hb' => ?_
    cases hb
    have := Ck.lt (h.holds k' c' e') hb'
    omega
  · cases hb
    have := h.lt _ hS
    omega
/-- A row that has no block. -/
theorem Sep.nilRow (h : Sep w S L) (k : κ) (e sz : Nat) (A : Option Addr) : Sep w S (upd L k (.rw e sz (.slice A 0 0) [])) := by
  have hb : rowBlock (.slice A 0 0) = Option.none := by cases A <;> simp [rowBlock]
  refine h.put k _ ⟨A, 0, 0, rfl, by simp, fun _ => rfl, Nat.le_refl _, by simp [maxLen], fun h => by omega⟩ (Nat.le_refl _) (fun k' c' hne e' => ⟨h.holds k' c' e', Ck.apart_of fun b hb' => ?_⟩) (fun b hb' => ?_)
  · have hb' : rowBlock (.slice A 0 0) = some b := hb'
    rw [hb] at hb'; cases hb'
  · have hb' : rowBlock (.slice A 0 0) = some b := hb'
    rw [hb] at hb'; cases hb'
/-- A chunk gets another name, and what had it is let go. -/
theorem Sep.name (h : Sep w S L) {k k' : κ} {c : Ck} (e : L k = some c) : Sep w S (upd (Go.Sep.del L k) k' c) := by
  refine (h.del k).put k' c (h.holds k c e) (Nat.le_refl _) (fun k2 c2 hne e2 => ?_) (fun b hb => h.ro k c b e hb)
  have hk : k2 ≠ k := by rintro rfl; rw [del_same] at e2; cases e2
  rw [del_other L hk] at e2
  exact ⟨h.holds k2 c2 e2, h.apart k k2 c c2 (Ne.symm hk) e e2⟩
/-- Five cells, from a place on, laid anew. -/
theorem Sep.set5 (h : Sep w S L) {k : κ} {b o : Nat} {v0 v1 v2 v3 v4 : Value} (e : L k = some (.cl b o [v0, v1, v2, v3, v4])) (x0 x1 x2 x3 x4 : Value) :
    Sep (((((w.setCell ⟨b, o, none⟩ x0).setCell ⟨b, o + 1, none⟩ x1).setCell ⟨b, o + 2, none⟩ x2).setCell ⟨b, o + 3, none⟩ x3).setCell ⟨b, o + 4, none⟩ x4) S (upd L k (.cl b o [x0, x1, x2, x3, x4])) ∧
    Ro S w (((((w.setCell ⟨b, o, none⟩ x0).setCell ⟨b, o + 1, none⟩ x1).setCell ⟨b, o + 2, none⟩ x2).setCell ⟨b, o + 3, none⟩ x3).setCell ⟨b, o + 4, none⟩ x4) := by
  have s0 := h.set e 0 (by simp) x0
  have s1 := s0.set (upd_same _ _ _) 1 (by simp) x1
  have s2 := s1.set (upd_same _ _ _) 2 (by simp) x2
  have s3 := s2.set (upd_same _ _ _) 3 (by simp) x3
  have s4 := s3.set (upd_same _ _ _) 4 (by simp) x4
  have r0 := h.ro_setCell e o x0
  have r1 := s0.ro_setCell (upd_same _ _ _) (o + 1) x1
  have r2 := s1.ro_setCell (upd_same _ _ _) (o + 2) x2
  have r3 := s2.ro_setCell (upd_same _ _ _) (o + 3) x3
  have r4 := s3.ro_setCell (upd_same _ _ _) (o + 4) x4
  refine ⟨?_, (((r0.trans' r1).trans' r2).trans' r3).trans' r4⟩
  have hup : ∀ (L : κ → Option Ck) (k : κ) (c c' : Ck), upd (upd L k c) k c' = upd L k c' := by
    intro L k c c'
    funext k'
    by_cases ek : k' = k
    · subst ek; rw [upd_same, upd_same]
    · rw [upd_other _ _ ek, upd_other _ _ ek, upd_other _ _ ek]
  simp only [hup] at s4
  exact s4
/-- A row has been written, or laid anew. -/
theorem Sep.grow (h : Sep w S L) {k : κ} {e sz : Nat} {v v1 : Value} {xs zs : List Value} (e0 : L k = some (.rw e sz v xs)) (hr : Row w1 e sz v1 zs) (hg : w.grownBy w1 (rowBlock v))
    (ha : rowBlock v1 = rowBlock v ∨ ∃ b, rowBlock v1 = some b ∧ w.heap.size ≤ b) : Sep w1 S (upd L k (.rw e sz v1 zs)) ∧ Ro S w w1 := by
  have hold := h.holds k _ e0
  refine ⟨h.put k _ hr hg.size (fun k' c' hne e' => ?_) (fun b hb hS => ?_), ⟨hg.size, hg.os, hg.output⟩, fun b hb => ?_⟩
  · have hap := h.apart k k' _ _ (Ne.symm hne) e0 e'
    have hap' : ∀ b, c'.block = some b → some b ≠ rowBlock v := by
      intro b hb hv
      have h2 := Ck.apart_symm hap
      cases c' with
      | cl b' o' vs' => exact h2 b hb hv.symm
      | rw e2 sz2 v2 xs2 => exact h2 b hb hv.symm
    refine ⟨Ck.move (h.holds k' c' e') fun b hb => hg.block b (Ck.lt (h.holds k' c' e') hb) (hap' b hb), ?_⟩
    refine Ck.apart_of fun b hb hb' => ?_
    have hb : rowBlock v1 = some b := hb
    rcases ha with ha | ⟨b2, hb2, hlt⟩
    · exact hap' b hb' (by rw [← ha, hb])
    · rw [hb2] at hb
      cases hb
      have := Ck.lt (h.holds k' c' e') hb'
      omega
  · have hb : rowBlock v1 = some b := hb
    rcases ha with ha | ⟨b2, hb2, hlt⟩
    · exact h.ro k _ b e0 (by show rowBlock v = some b; rw [← ha, hb]) hS
    · rw [hb2] at hb
      cases hb
      have := h.lt _ hS
      omega
  · exact hg.block b (h.lt b hb) fun hv => h.ro k _ b e0 hv.symm hb
theorem Sep.grown_cell (h : Sep w S L) {k k' : κ} {e sz : Nat} {v : Value} {xs : List Value} (e0 : L k = some (.rw e sz v xs)) (hg : w.grownBy w1 (rowBlock v)) {b o : Nat} {vs : List Value} (e1 : L k' = some (.cl b o vs)) (a : Addr) (ha : a.block = b) :
    w1.cell? a = w.cell? a ∧ w1.frozen? a = w.frozen? a := by
  have hb : w1.heap[a.block]? = w.heap[a.block]? := by
    rw [ha]
    refine hg.block b ((h.cells e1).lt) fun hv => ?_
    have hne : k ≠ k' := by rintro rfl; rw [e0] at e1; cases e1
    exact h.apart k k' _ _ hne e0 e1 b hv.symm rfl
  exact ⟨World.cell?_of_block hb, World.frozen?_of_block hb⟩
end
end Go.Sep
/- A row that is held, and what append makes of it; what a list reads as. -/
set_option linter.unusedVariables false
namespace Go.Sep
open Go.RowKit
variable {P : Program}
/-- What a slice reads as: its cells, one behind the other. -/
def Rd (w : World) (sz : Nat) (A : Option Addr) (n : Nat) (xs : List Value) : Prop :=
  xs.length = n * sz ∧ (0 < n → ∃ a, A = some a ∧ a.spot = none ∧ ∀ j u, xs[j]? = some u → w.cell? (a.add j) = some u)
theorem Rd.alloc {w : World} {sz : Nat} {A : Option Addr} {n : Nat} {xs : List Value} (h : Rd w sz A n xs) (o : Obj) : Rd (w.alloc o) sz A n xs :=
  ⟨h.1, fun hn => by
    obtain ⟨a, e, h0, hc⟩ := h.2 hn
    refine ⟨a, e, h0, fun j u hu => ?_⟩
    have := hc j u hu
    rw [World.cell?_alloc_some w _ o (by rw [this]; rfl)]
    exact this⟩
theorem Row.rd {w : World} {e sz : Nat} {v : Value} {xs : List Value} (h : Row w e sz v xs) : ∃ A n c, v = .slice A n c ∧ n ≤ c ∧ c ≤ maxLen ∧ xs.length = n * sz ∧ Rd w sz A n xs := by
  obtain ⟨A, n, c, rfl, h1, hA, h2, h3, hr⟩ := h
  refine ⟨A, n, c, rfl, h2, h3, h1, h1, fun hn => ?_⟩
  obtain ⟨g, cur, rfl, hg, hc, ht⟩ := hr (by omega)
  refine ⟨_, rfl, rfl, fun j u hu => ?_⟩
  rw [show (Addr.mk g 0 none).add j = ⟨g, j, none⟩ by unfold Addr.add; split <;> simp_all]
  rw [← ht, List.getElem?_take] at hu
  split at hu
  · simp [World.cell?, hg]; simpa using hu
  · cases hu
theorem row_nil (w : World) (e sz : Nat) (A : Option Addr) : Row w e sz (.slice A 0 0) [] := ⟨A, 0, 0, rfl, by simp, fun _ => rfl, Nat.le_refl _, by simp [maxLen], fun h => by omega⟩
theorem Row.own {w : World} {e sz : Nat} {v : Value} {xs : List Value} (h : Row w e sz v xs) {b : Nat} (hb : rowBlock v = some b) : ∃ n, w.ownsRow 0 e sz v n xs ∧ v.ownBlock = some b := by
  obtain ⟨A, n, c, rfl, h1, hA, h2, h3, hr⟩ := h
  cases A with
  | none => simp [rowBlock] at hb
  | some a =>
    simp only [rowBlock] at hb
    split at hb
    · cases hb
    · cases hb
      obtain ⟨g, cur, ha, hg, hc, ht⟩ := hr (by omega)
      cases ha
      exact ⟨n, ⟨h1, .inr ⟨g, c, cur, rfl, Nat.zero_le _, hg, h2, h3, hc, ht⟩⟩, rfl⟩
theorem Row.of_own {w : World} {base e sz n : Nat} {v : Value} {xs : List Value} (h : w.ownsRow base e sz v n xs) : Row w e sz v xs := by
  obtain ⟨h1, h2⟩ := h
  rcases h2 with ⟨rfl, rfl⟩ | ⟨g, cap, cur, rfl, hb, hg, hn, hm, hc, ht⟩
  · obtain rfl : xs = [] := List.eq_nil_of_length_eq_zero (by simpa using h1)
    exact row_nil _ _ _ _
  · exact ⟨_, _, _, rfl, h1, (fun h => nomatch h), hn, hm, fun _ => ⟨g, cur, rfl, hg, hc, ht⟩⟩
theorem rowBlock_of_own {v : Value} {b : Nat} (h : rowBlock v = some b) : v.ownBlock = some b := by
  cases v with
  | slice a n c =>
    cases a with
    | none => simp [rowBlock] at h
    | some a =>
      simp only [rowBlock] at h
      split at h
      · cases h
      · exact h
  | _ => simp [rowBlock] at h
/-- append onto a row that is held. -/
theorem Row.append {w : World} {e sz : Nat} {v : Value} {xs : List Value} (h : Row w e sz v xs) (t ty : TypeId) (z : Value) (bytes : Nat) (ht : P.underlying t = some (.slice e))
    (hinfo : (P.info? e).map (fun i => (i.zero, i.size, i.bytes)) = some (some z, sz, bytes)) (hzs : z.cells.size = sz) (hsz : 0 < sz)
    (A : Option Addr) (m c : Nat) (ys : List Value) (hy : Rd w sz A m ys) (h1 : ∀ u ∈ ys, u.oneCell' = true) (hb : 0 < bytes) (hbytes : (xs.length + ys.length) * bytes ≤ 140737488355328) :
    ∃ v' w', (Builtin.append_ #[t, t] ty #[v, .slice A m c]).run P w = .ok v' w' ∧ Row w' e sz v' (xs ++ ys) ∧ w.grownBy w' (rowBlock v) ∧
      (rowBlock v' = rowBlock v ∨ ∃ b, rowBlock v' = some b ∧ w.heap.size ≤ b) := by
  obtain ⟨i, hi, hz, hsize, hby⟩ : ∃ i, P.info? e = some i ∧ i.zero = some z ∧ i.size = sz ∧ i.bytes = bytes := by
    cases hi : P.info? e with
    | none => rw [hi] at hinfo; cases hinfo
    | some i =>
      rw [hi] at hinfo
      injection hinfo with hinfo
      injection hinfo with e1 e2
      injection e2 with e2 e3
      exact ⟨i, rfl, e1, e2, e3⟩
  have same : ∀ row, w.grownBy w row := fun row => ⟨rfl, rfl, rfl, Nat.le_refl _, fun _ _ _ => rfl⟩
  have bytes1 : ∀ n : Nat, n * sz ≤ xs.length → (n + m) * bytes ≤ 140737488355328 := by
    intro n hn
    have e1 : n ≤ xs.length := Nat.le_trans (Nat.le_mul_of_pos_right n hsz) hn
    have e2 : m ≤ ys.length := by rw [hy.1]; exact Nat.le_mul_of_pos_right m hsz
    exact Nat.le_trans (Nat.mul_le_mul_right _ (by omega)) hbytes
  have len1 : ∀ n : Nat, n * sz ≤ xs.length → n + m ≤ maxLen := by
    intro n hn
    have := bytes1 n hn
    have : n + m ≤ (n + m) * bytes := Nat.le_mul_of_pos_right _ hb
    simp only [maxLen]; omega
  by_cases hm : m = 0
  · subst hm
    obtain rfl : ys = [] := List.eq_nil_of_length_eq_zero (by simpa using hy.1)
    obtain ⟨B, n, cc, rfl, g1, hA, g2, g3, hr⟩ := h
    refine ⟨.slice B n cc, w, ?_, by rw [List.append_nil]; exact ⟨B, n, cc, rfl, g1, hA, g2, g3, hr⟩, same _, .inl rfl⟩
    cases A <;> cases B <;> simp [Builtin.append_, run_underlying ht, sizeOf, typeInfo, hi, Builtin.lenOf, g2, Builtin.firstCells, loadCells, loadCellsFrom, storeCells]
  · obtain ⟨a, rfl, ha0, ha⟩ := hy.2 (by omega)
    cases hrb : rowBlock v with
    | some b =>
      obtain ⟨n, hown, hv⟩ := h.own hrb
      have hxl := hown.1
      obtain ⟨v', w', r1, r2, r3, r4, r5⟩ := run_append_own_at (P := P) w 0 t ty e i z sz bytes ht hi hz hsize hby hzs hsz v n xs hown a m c ys hy.1 ha h1 (len1 n (by omega)) (bytes1 n (by omega)) (Nat.zero_le _)
      refine ⟨v', w', r1, Row.of_own r2, by rw [← hv]; exact r3, ?_⟩
      cases hrb' : rowBlock v' with
      | none =>
        exfalso
        obtain ⟨g, cap, hv', _, _⟩ := r2.form (by omega)
        have := r2.2
        rcases this with ⟨_, h0⟩ | ⟨g2, cap2, cur, hv2, _, _, hn2, _⟩
        · omega
        · rw [hv2] at hrb'
          simp [rowBlock] at hrb'
          omega
      | some b' =>
        have := rowBlock_of_own hrb'
        rcases r5 with r5 | r5
        · left; rw [← hv, ← r5, this]
        · right; rw [this] at r5; injection r5 with r5; exact ⟨b', rfl, by omega⟩
    | none =>
      obtain ⟨B, n, cc, rfl, g1, hA, g2, g3, hr⟩ := h
      have hc0 : cc = 0 := by
        cases B with
        | none => exact hA rfl
        | some bb => by_cases h0 : cc = 0; exact h0; simp [rowBlock, h0] at hrb
      subst hc0
      obtain rfl : n = 0 := by omega
      obtain rfl : xs = [] := List.eq_nil_of_length_eq_zero (by simpa using g1)
      have fin : ∀ (v' : Value) (w' : World), w'.ownsRow w.heap.size e sz v' (0 + m) ([] ++ ys) → (rowBlock v' = none ∨ ∃ b, rowBlock v' = some b ∧ w.heap.size ≤ b) := by
        intro v' w' ho
        cases hrb' : rowBlock v' with
        | none => exact .inl rfl
        | some b' => exact .inr ⟨b', rfl, (ho.lt b' (rowBlock_of_own hrb')).1⟩
      cases B with
      | none =>
        obtain ⟨v', w', r1, r2, r3, _⟩ := run_append_own (P := P) w w.heap.size t ty e i z sz bytes ht hi hz hsize hby hzs hsz (.slice none 0 0) 0 [] (World.ownsRow_nil w _ e sz) a m c ys hy.1 ha h1 (len1 0 (by simp)) (bytes1 0 (by simp)) (Nat.le_refl _)
        exact ⟨v', w', r1, Row.of_own r2, r3, fin v' w' r2⟩
      | some bb =>
        obtain ⟨v', w', r1, r2, r3⟩ := run_append_arg_grows (P := P) w t ty e i z sz bytes ht hi hz hsize hby hzs hsz bb 0 0 [] (by simp) (fun j u hu => by simp at hu) a m c ys hy.1 ha (by omega) (len1 0 (by simp)) (bytes1 0 (by simp))
        exact ⟨v', w', r1, Row.of_own r2, r3, fin v' w' r2⟩
section
variable {t e : TypeId} {i : TypeInfo} {size : Nat}
/-- l[:k]. -/
theorem slice_to (ht : P.underlying t = some (.slice e)) (hi : P.info? e = some i) (A : Option Addr) (n c k : Nat) (hk : k ≤ n) (hc : n ≤ c) :
    ∀ W : World, (Instr.slice t (.slice A n c) none (some (.int .i64 (k : Int))) none).run P W = .ok (.slice A k c) W := by
  intro W
  have hel : P.elem t = e := by simp [Program.elem, ht]
  have hu : P.underlying t = some (.slice (P.elem t)) := by rw [hel]; exact ht
  have ha : (A.map fun x => x.add 0) = A := by cases A <;> simp [Addr.add]
  rw [run_slice_h W t A n c hu .i64 (k : Int) (by omega) (by omega), hel]
  simp [sizeOf, typeInfo, hi, sliced, Result.andThen, ha]
/-- l[k:]. -/
theorem slice_from (ht : P.underlying t = some (.slice e)) (hi : P.info? e = some i) (hsz : i.size = size) (A : Option Addr) (n c k : Nat) (hk : k ≤ n) :
    ∃ B, (∀ W : World, (Instr.slice t (.slice A n c) (some (.int .i64 (k : Int))) none none).run P W = .ok (.slice B (n - k) (c - k)) W) ∧ (B = none → A = none) ∧ ∀ (w : World) (xs : List Value), n ≤ c → Rd w size A n xs → Rd w size B (n - k) (xs.drop (k * size)) := by
  have hel : P.elem t = e := by simp [Program.elem, ht]
  have hu : P.underlying t = some (.slice (P.elem t)) := by rw [hel]; exact ht
  refine ⟨if c = k then A else A.map (·.add (k * size)), fun W => ?_, fun h => by (split at h; exact h; simpa using h), fun w xs hc hr => ⟨?_, fun hp => ?_⟩⟩
  · rw [run_slice_l W t A n c hu .i64 (k : Int) (by omega) (by omega), hel]
    simp [sizeOf, typeInfo, hi, hsz, sliced, Result.andThen]
  · rw [List.length_drop, hr.1, Nat.sub_mul]
  · obtain ⟨a, rfl, ha, hcl⟩ := hr.2 (by omega)
    refine ⟨a.add (k * size), by rw [if_neg (by omega)]; rfl, ?_, fun j u hu => ?_⟩
    · unfold Addr.add; split
      · exact ha
      · rfl
    · rw [List.getElem?_drop] at hu
      rw [Go.Deep.add_add]
      exact hcl _ u hu
end
end Go.Sep
/- What step does, in plain lists and numbers. -/
namespace Go.St
structure Lb where
  to : Int
  ar : Int
  ht : Int
structure Fr where
  fn : Int
  at_ : Int
  ar : Int
  ht : Int
  loc : List Int
  lab : List Lb
structure Cf where
  frs : List Fr
  st : List Int
  ov : Bool
  er : Int
  va : List Int
structure Ins where
  op : Int
  a : Int
  b : Int
  n : Int
  l : List Int
  t : Int
structure Ft where
  ps : List Int
  rs : List Int
structure Cd where
  ls : List Int
  body : List Ins
structure Lim where
  min : Int
  max : Int
  has : Bool
structure El where
  mode : Int
  table : Int
  off : List Ins
  init : List (List Ins)
structure Da where
  mode : Int
  off : List Ins
  bytes : List Int
/-- Of a module what instructions ask, and what makes an instance. -/
structure Mo where
  types : List Ft
  funcs : List Int
  tabs : List Lim
  mems : List Lim
  globs : List (List Ins)
  elems : List El
  datas : List Da
  codes : List Cd
/-- An instance; of blocks: where the else and the end of each stand. -/
structure In where
  blocks : List (Int → Option (Int × Int))
  mem : List Int
  tabs : List (List Int)
  glo : List Int
  els : List Bool
  das : List Bool
/-- What was, noted. -/
inductive Note where
  | mem (at_ : Nat) (was : List Int)
  | size (n : Nat)
  | table (t at_ : Nat) (was : List Int)
  | rows (t n : Nat)
  | global (g : Nat) (was : Int)
  | seg (data : Bool) (k : Nat) (was : Bool)
structure Ms where
  c : Cf
  i : In
  j : Option (List Note)
def endsC (e : Int) : Cf := ⟨[], [], true, e, []⟩
def lowI (x : Int) : Int := x % 4294967296
def popsC (C : Cf) (n : Int) : Option (List Int × Cf) :=
  if n < 0 ∨ (C.st.length : Int) < n then none else some (C.st.drop (C.st.length - n.toNat), { C with st := C.st.take (C.st.length - n.toNat) })
def landsC (C : Cf) (n ht : Int) : Option Cf := match popsC C n with
  | none => none
  | some (l, C1) => if ht < 0 ∨ (C1.st.length : Int) < ht then none else some { C1 with st := C1.st.take ht.toNat ++ l }
def topC (C : Cf) : Option Fr := C.frs[C.frs.length - 1]?
def setTop (C : Cf) (f : Fr) : Cf := { C with frs := C.frs.set (C.frs.length - 1) f }
def leaveC (C : Cf) (f : Fr) : Cf := match landsC C f.ar f.ht with
  | none => endsC 17
  | some C1 => match C1.frs.take (C1.frs.length - 1) with
    | [] => ⟨[], [], true, 0, C1.st⟩
    | x :: r => { C1 with frs := x :: r }
def functionM (M : Mo) (nb : Nat) (f : Int) : Option Ft := match M.funcs[f.toNat]? with
  | none => none
  | some x => match M.types[x.toNat]? with
    | none => none
    | some t => if f.toNat < M.codes.length ∧ f.toNat < nb then some t else none
def argsOf (ps args : List Int) : List Int := List.zipWith (fun p a => if p = 127 then lowI a else a) ps args
def openC (M : Mo) (nb : Nat) (C : Cf) (f : Int) (args : List Int) : Cf :=
  if 32 ≤ C.frs.length then endsC 8 else match functionM M nb f, M.codes[f.toNat]? with
  | some t, some c => if args.length ≠ t.ps.length then endsC 17 else
    { C with frs := C.frs ++ [⟨f, 0, t.rs.length, C.st.length, argsOf t.ps args ++ List.replicate c.ls.length 0, [⟨(c.body.length : Int) - 1, t.rs.length, C.st.length⟩]⟩] }
  | _, _ => endsC 17
def insAt (M : Mo) (fn at_ : Int) : Option Ins := if at_ < 0 then none else match M.codes[fn.toNat]? with
  | none => none
  | some c => c.body[at_.toNat]?
def opM (M : Mo) (fn at_ : Int) : Int := match insAt M fn at_ with
  | none => -1
  | some x => x.op
def branchC (M : Mo) (C : Cf) (f : Fr) (n : Int) : Cf :=
  if (f.lab.length : Int) - 1 < min n 2147483647 then endsC 17 else
  if (f.lab.length : Int) - 1 = min n 2147483647 then leaveC C f else
  match f.lab[f.lab.length - 1 - (min n 2147483647).toNat]? with
  | none => endsC 17
  | some l => match landsC C l.ar l.ht with
    | none => endsC 17
    | some C1 => setTop C1 { f with at_ := l.to + 1, lab := f.lab.take (f.lab.length - 1 - (min n 2147483647).toNat + if opM M f.fn l.to = 3 then 1 else 0) }
def signM (M : Mo) (t : Int) : Option (Nat × Nat) :=
  if t = -64 then some (0, 0) else if t < 0 then some (0, 1) else match M.types[t.toNat]? with
  | none => none
  | some x => some (x.ps.length, x.rs.length)
def callC (M : Mo) (nb : Nat) (C : Cf) (f : Int) : Cf := match functionM M nb f with
  | none => endsC 17
  | some t => match popsC C t.ps.length with
    | none => endsC 17
    | some (l, C1) => openC M nb C1 f l
def closeC (C : Cf) (f : Fr) : Cf :=
  if f.lab.length = 0 then endsC 17 else if f.lab.length = 1 then leaveC C f else setTop C { f with lab := f.lab.take (f.lab.length - 1) }
def skipC (C : Cf) (f : Fr) : Cf := match f.lab[f.lab.length - 1]? with
  | none => endsC 17
  | some l => if f.lab.length < 2 then endsC 17 else setTop C { f with at_ := l.to + 1, lab := f.lab.take (f.lab.length - 1) }
def enter2 (C : Cf) (f : Fr) (x : Ins) (at_ en : Int) (p r : Nat) : Cf := setTop C { f with lab := f.lab ++ [if x.op = 3 then ⟨at_, p, (C.st.length : Int) - p⟩ else ⟨en, r, (C.st.length : Int) - p⟩] }
def enterC (M : Mo) (bf : Int → Option (Int × Int)) (C : Cf) (f : Fr) (x : Ins) (at_ : Int) : Cf := match bf at_, signM M x.t with
  | some (el, en), some (p, r) => if x.op = 4 then match popsC C 1 with
      | none => endsC 17
      | some (l, C1) => if lowI (l.headD 0) = 0 then (if el < 0 then setTop C1 { f with at_ := en + 1 } else enter2 (setTop C1 { f with at_ := el + 1 }) { f with at_ := el + 1 } x at_ en p r) else enter2 C1 f x at_ en p r
    else enter2 C f x at_ en p r
  | _, _ => endsC 17
end Go.St
/- How a machine's state lies in memory. -/
set_option linter.unusedVariables false
namespace Go.Proofs.YtmnebeikafigjaaGreatDoor
open Go.RowKit Go.Sep Go.St
inductive Key where
  | mach | cfg (u : Nat) | fr (u : Nat) | st (u : Nat) | va (u : Nat) | loc (u k : Nat) | lab (u k : Nat) | ins (u : Nat) | mem (u : Nat) | tbs (u : Nat) | tab (u k : Nat)
  | glo (u : Nat) | els (u : Nat) | das (u : Nat) | jou (u : Nat) | jl (u : Nat) | tmp (k : Nat)
def Key.own : Key → Option Nat
  | .mach => none | .tmp _ => none
  | .cfg u => some u | .fr u => some u | .st u => some u | .va u => some u | .loc u _ => some u | .lab u _ => some u | .ins u => some u | .mem u => some u | .tbs u => some u | .tab u _ => some u
  | .glo u => some u | .els u => some u | .das u => some u | .jou u => some u | .jl u => some u
def ints (k : IntKind) (l : List Int) : List Value := l.map (Value.int k)
def bools (l : List Bool) : List Value := l.map Value.bool
theorem ints_len (k : IntKind) (l : List Int) : (ints k l).length = l.length := by simp [ints]
theorem bools_len (l : List Bool) : (bools l).length = l.length := by simp [bools]
theorem ints_get (k : IntKind) (l : List Int) (j : Nat) (x : Int) (h : l[j]? = some x) : (ints k l)[j]? = some (.int k x) := by simp [ints, h]
theorem ints_app (k : IntKind) (a b : List Int) : ints k (a ++ b) = ints k a ++ ints k b := by simp [ints]
theorem ints_one (k : IntKind) (l : List Int) : ∀ u ∈ ints k l, u.oneCell' = true := by
  intro u hu
  simp only [ints, List.mem_map] at hu
  obtain ⟨x, _, rfl⟩ := hu
  rfl
theorem bools_one (l : List Bool) : ∀ u ∈ bools l, u.oneCell' = true := by
  intro u hu
  simp only [bools, List.mem_map] at hu
  obtain ⟨x, _, rfl⟩ := hu
  rfl

/-! ### what is only read -/
/-- A list that is only read, its elements of sz cells each, R of each one's cells. -/
def RdL {α : Type} (w : World) (S : Nat → Prop) (sz : Nat) (R : α → List Value → Prop) (v : Value) (xs : List α) : Prop :=
  ∃ A c, v = .slice A xs.length c ∧ xs.length ≤ c ∧ xs.length ≤ maxLen ∧ (0 < xs.length → ∃ b o, A = some ⟨b, o, none⟩ ∧ S b ∧
    ∀ (k : Nat) x, xs[k]? = some x → ∃ cs, cs.length = sz ∧ R x cs ∧ ∀ (j : Nat) u, cs[j]? = some u → w.cell? ⟨b, o + k * sz + j, none⟩ = some u) ∧ (A = none → c = 0)
theorem RdL.mono {α : Type} {w w' : World} {S S' : Nat → Prop} {sz : Nat} {R R' : α → List Value → Prop} {v : Value} {xs : List α} (h : RdL w S sz R v xs)
    (hr : Ro S w w') (hS : ∀ b, S b → S' b) (hR : ∀ x cs, R x cs → R' x cs) : RdL w' S' sz R' v xs := by
  obtain ⟨A, c, rfl, h1, h2, h3, h4⟩ := h
  refine ⟨A, c, rfl, h1, h2, fun hp => ?_, h4⟩
  obtain ⟨b, o, rfl, hb, hc⟩ := h3 hp
  refine ⟨b, o, rfl, hS b hb, fun k x hx => ?_⟩
  obtain ⟨cs, g1, g2, g3⟩ := hc k x hx
  exact ⟨cs, g1, hR x cs g2, fun j u hu => (World.cell?_of_block (a := ⟨b, o + k * sz + j, none⟩) (hr.2 b hb)).trans (g3 j u hu)⟩
theorem RdL.get {α : Type} {w : World} {S : Nat → Prop} {sz : Nat} {R : α → List Value → Prop} {A : Option Addr} {n c : Nat} {xs : List α} (h : RdL w S sz R (.slice A n c) xs) (k : Nat) (x : α) (hx : xs[k]? = some x) :
    ∃ b o cs, A = some ⟨b, o, none⟩ ∧ S b ∧ cs.length = sz ∧ R x cs ∧ ∀ (j : Nat) u, cs[j]? = some u → w.cell? ⟨b, o + k * sz + j, none⟩ = some u := by
  obtain ⟨A, c, hv, h1, h2, h3, _⟩ := h
  cases hv
  obtain ⟨b, o, rfl, hb, hc⟩ := h3 (by have := (List.getElem?_eq_some_iff.1 hx).1; omega)
  obtain ⟨cs, g1, g2, g3⟩ := hc k x hx
  exact ⟨b, o, cs, rfl, hb, g1, g2, g3⟩
def num1 (k : IntKind) (x : Int) (cs : List Value) : Prop := cs = [.int k x]
def InsR (w : World) (S : Nat → Prop) (x : Ins) (cs : List Value) : Prop := ∃ lv, cs = [.int .i64 x.op, .int .u32 x.a, .int .u32 x.b, .int .u64 x.n, lv, .int .i64 x.t] ∧ RdL w S 1 (num1 .u32) lv x.l
def FtR (w : World) (S : Nat → Prop) (x : Ft) (cs : List Value) : Prop := ∃ pv rv, cs = [pv, rv] ∧ RdL w S 1 (num1 .u8) pv x.ps ∧ RdL w S 1 (num1 .u8) rv x.rs
def CdR (w : World) (S : Nat → Prop) (x : Cd) (cs : List Value) : Prop := ∃ lv bv, cs = [lv, bv] ∧ RdL w S 1 (num1 .u8) lv x.ls ∧ RdL w S 6 (InsR w S) bv x.body
def LimR (x : Lim) (cs : List Value) : Prop := cs = [.int .u32 x.min, .int .u32 x.max, .bool x.has]
def TabR (x : Lim) (cs : List Value) : Prop := ∃ t : Int, cs = [.int .u8 t, .int .u32 x.min, .int .u32 x.max, .bool x.has]
def ElemR (w : World) (S : Nat → Prop) (x : El) (cs : List Value) : Prop := ∃ (t : Int) (ov iv : Value), cs = [.int .u8 x.mode, .int .u8 t, .int .u32 x.table, ov, iv] ∧ RdL w S 6 (InsR w S) ov x.off ∧ RdL w S 1 (fun (l : List Ins) cs => ∃ v, cs = [v] ∧ RdL w S 6 (InsR w S) v l) iv x.init
def DataR (w : World) (S : Nat → Prop) (x : Da) (cs : List Value) : Prop := ∃ ov bv, cs = [.int .u8 x.mode, ov, bv] ∧ RdL w S 6 (InsR w S) ov x.off ∧ RdL w S 1 (num1 .u8) bv x.bytes
def GlobR (w : World) (S : Nat → Prop) (x : List Ins) (cs : List Value) : Prop := ∃ (t : Int) (m : Bool) (iv : Value), cs = [.int .u8 t, .bool m, iv] ∧ RdL w S 6 (InsR w S) iv x
/-- Where the blocks of a function end: what a lookup gives, in each world that has the map. -/
def BlkR (w : World) (S : Nat → Prop) (f : Int → Option (Int × Int)) (cs : List Value) : Prop := ∃ r, cs = [.map (some r)] ∧ S r ∧
  ∀ (w' : World) (k : Int), 0 ≤ k → k ≤ 9223372036854775807 → w'.heap[r]? = w.heap[r]? → (Instr.lookup 147 (.map (some r)) (.int .i64 k) true).run Tryz.prog w' = .ok (.tuple #[.agg #[.int .i64 ((f k).getD (0, 0)).1, .int .i64 ((f k).getD (0, 0)).2], .bool (f k).isSome]) w'
structure ModR (w : World) (S : Nat → Prop) (M : Mo) (cs : List Value) : Prop where
  len : cs.length = 13
  types : ∃ v, cs[0]? = some v ∧ RdL w S 2 (FtR w S) v M.types
  funcs : ∃ v, cs[1]? = some v ∧ RdL w S 1 (num1 .u32) v M.funcs
  tabs : ∃ v, cs[2]? = some v ∧ RdL w S 4 TabR v M.tabs
  mems : ∃ v, cs[3]? = some v ∧ RdL w S 3 LimR v M.mems
  globs : ∃ v, cs[4]? = some v ∧ RdL w S 3 (GlobR w S) v M.globs
  elems : ∃ v, cs[8]? = some v ∧ RdL w S 5 (ElemR w S) v M.elems
  codes : ∃ v, cs[11]? = some v ∧ RdL w S 2 (CdR w S) v M.codes
  datas : ∃ v, cs[12]? = some v ∧ RdL w S 3 (DataR w S) v M.datas
section
variable {w w' : World} {S S' : Nat → Prop} (hr : Ro S w w') (hS : ∀ b, S b → S' b)
include hr hS
theorem InsR.mono {x : Ins} {cs : List Value} (h : InsR w S x cs) : InsR w' S' x cs := by
  obtain ⟨lv, e, h1⟩ := h
  exact ⟨lv, e, h1.mono hr hS fun _ _ h => h⟩
theorem FtR.mono {x : Ft} {cs : List Value} (h : FtR w S x cs) : FtR w' S' x cs := by
  obtain ⟨a, b, e, h1, h2⟩ := h
  exact ⟨a, b, e, h1.mono hr hS fun _ _ h => h, h2.mono hr hS fun _ _ h => h⟩
theorem CdR.mono {x : Cd} {cs : List Value} (h : CdR w S x cs) : CdR w' S' x cs := by
  obtain ⟨a, b, e, h1, h2⟩ := h
  exact ⟨a, b, e, h1.mono hr hS fun _ _ h => h, h2.mono hr hS fun _ _ h => h.mono hr hS⟩
theorem ElemR.mono {x : El} {cs : List Value} (h : ElemR w S x cs) : ElemR w' S' x cs := by
  obtain ⟨t, ov, iv, e, h1, h2⟩ := h
  exact ⟨t, ov, iv, e, h1.mono hr hS fun _ _ h => h.mono hr hS, h2.mono hr hS fun _ _ ⟨v, e, h⟩ => ⟨v, e, h.mono hr hS fun _ _ h => h.mono hr hS⟩⟩
theorem DataR.mono {x : Da} {cs : List Value} (h : DataR w S x cs) : DataR w' S' x cs := by
  obtain ⟨ov, bv, e, h1, h2⟩ := h
  exact ⟨ov, bv, e, h1.mono hr hS fun _ _ h => h.mono hr hS, h2.mono hr hS fun _ _ h => h⟩
theorem GlobR.mono {x : List Ins} {cs : List Value} (h : GlobR w S x cs) : GlobR w' S' x cs := by
  obtain ⟨t, m, iv, e, h1⟩ := h
  exact ⟨t, m, iv, e, h1.mono hr hS fun _ _ h => h.mono hr hS⟩
theorem BlkR.mono {x : Int → Option (Int × Int)} {cs : List Value} (h : BlkR w S x cs) : BlkR w' S' x cs := by
  obtain ⟨r, e, h1, h2⟩ := h
  exact ⟨r, e, hS r h1, fun w2 k a b hw => h2 w2 k a b (hw.trans (hr.2 r h1))⟩
theorem ModR.mono {M : Mo} {cs : List Value} (h : ModR w S M cs) : ModR w' S' M cs := by
  obtain ⟨h0, ⟨v1, a1, b1⟩, ⟨v2, a2, b2⟩, ⟨v3, a3, b3⟩, ⟨v4, a4, b4⟩, ⟨v8, a8, b8⟩, ⟨v5, a5, b5⟩, ⟨v6, a6, b6⟩, ⟨v7, a7, b7⟩⟩ := h
  exact ⟨h0, ⟨v1, a1, b1.mono hr hS fun _ _ h => h.mono hr hS⟩, ⟨v2, a2, b2.mono hr hS fun _ _ h => h⟩, ⟨v3, a3, b3.mono hr hS fun _ _ h => h⟩, ⟨v4, a4, b4.mono hr hS fun _ _ h => h⟩,
    ⟨v8, a8, b8.mono hr hS fun _ _ h => h.mono hr hS⟩, ⟨v5, a5, b5.mono hr hS fun _ _ h => h.mono hr hS⟩, ⟨v6, a6, b6.mono hr hS fun _ _ h => h.mono hr hS⟩, ⟨v7, a7, b7.mono hr hS fun _ _ h => h.mono hr hS⟩⟩
end

/-! ### what is held -/
def labC (l : List Lb) : List Value := l.flatMap fun b => [.int .i64 b.to, .int .i64 b.ar, .int .i64 b.ht]
def frC (f : Fr) (lv bv : Value) : List Value := [.int .i64 f.fn, .int .i64 f.at_, .int .i64 f.ar, .int .i64 f.ht, lv, bv]
def FrsAt (L : Key → Option Ck) (u : Nat) (fv : Value) (frs : List Fr) : Prop :=
  ∃ raws : List (Value × Value), raws.length = frs.length ∧ L (.fr u) = some (.rw 113 6 fv ((frs.zip raws).flatMap fun p => frC p.1 p.2.1 p.2.2)) ∧
    ∀ (k : Nat) f r, frs[k]? = some f → raws[k]? = some r → L (.loc u k) = some (.rw 26 1 r.1 (ints .u64 f.loc)) ∧ L (.lab u k) = some (.rw 146 3 r.2 (labC f.lab))
def CfgAt (L : Key → Option Ck) (u cB co : Nat) (C : Cf) : Prop :=
  ∃ fv sv vv, L (.cfg u) = some (.cl cB co [fv, sv, .bool C.ov, .int .i64 C.er, vv]) ∧ FrsAt L u fv C.frs ∧ L (.st u) = some (.rw 26 1 sv (ints .u64 C.st)) ∧ L (.va u) = some (.rw 26 1 vv (ints .u64 C.va))
def TabsAt (L : Key → Option Ck) (u : Nat) (tv : Value) (tabs : List (List Int)) : Prop :=
  ∃ raws : List Value, raws.length = tabs.length ∧ L (.tbs u) = some (.rw 57 1 tv raws) ∧ ∀ (k : Nat) l v, tabs[k]? = some l → raws[k]? = some v → L (.tab u k) = some (.rw 26 1 v (ints .u64 l))
def InsAt (w : World) (S : Nat → Prop) (L : Key → Option Ck) (u iB : Nat) (M : Mo) (I : In) : Prop :=
  ∃ mc bv mv tv gv ev dv, L (.ins u) = some (.cl iB 0 (mc ++ [bv, mv, tv, gv, ev, dv])) ∧ ModR w S M mc ∧ RdL w S 1 (BlkR w S) bv I.blocks ∧
    L (.mem u) = some (.rw 5 1 mv (ints .u8 I.mem)) ∧ TabsAt L u tv I.tabs ∧ L (.glo u) = some (.rw 26 1 gv (ints .u64 I.glo)) ∧
    L (.els u) = some (.rw 4 1 ev (bools I.els)) ∧ L (.das u) = some (.rw 4 1 dv (bools I.das))
/-- A note: what its function holds. -/
def NoteR (w : World) (S : Nat → Prop) (n : Note) (v : Value) : Prop := False
def JAt (w : World) (S : Nat → Prop) (L : Key → Option Ck) (u : Nat) (jp : Value) (J : Option (List Note)) : Prop := match J with
  | none => jp = .pointer none
  | some ns => ∃ jB lv fs, jp = .pointer (some ⟨jB, 0, none⟩) ∧ L (.jou u) = some (.cl jB 0 [lv]) ∧ L (.jl u) = some (.rw 243 1 lv fs) ∧ fs.length = ns.length ∧ ∀ (k : Nat) n v, ns[k]? = some n → fs[k]? = some v → NoteR w S n v
structure Ptrs where
  mB : Nat
  cB : Nat
  co : Nat
  iB : Nat
  jp : Value
/-- Nothing is too long. -/
structure Small (s : Ms) : Prop where
  st : s.c.st.length ≤ 1000000
  frs : s.c.frs.length ≤ 1000
  lab : ∀ f ∈ s.c.frs, f.lab.length ≤ 1000000
structure Ins.wf (x : Ins) : Prop where
  op : 0 ≤ x.op ∧ x.op < 1000000
  a : 0 ≤ x.a ∧ x.a < 4294967296
  b : 0 ≤ x.b ∧ x.b < 4294967296
  n : 0 ≤ x.n ∧ x.n < 18446744073709551616
  t : -1000000 < x.t ∧ x.t < 1000000
  l : ∀ y ∈ x.l, 0 ≤ y ∧ y < 4294967296
  ll : x.l.length ≤ 1000000
structure Wf (M : Mo) : Prop where
  funcs : ∀ x ∈ M.funcs, 0 ≤ x ∧ x < 4294967296
  ps : ∀ t ∈ M.types, (∀ x ∈ t.ps, 0 ≤ x ∧ x < 256) ∧ t.ps.length ≤ 1000 ∧ t.rs.length ≤ 1000
  types : M.types.length ≤ 100000
  body : ∀ c ∈ M.codes, c.body.length ≤ 100000 ∧ c.ls.length ≤ 1000 ∧ ∀ x ∈ c.body, Ins.wf x
  lims : ∀ x ∈ M.mems ++ M.tabs, 0 ≤ x.min ∧ x.min < 4294967296 ∧ 0 ≤ x.max ∧ x.max < 4294967296
  globs : M.globs.length ≤ 1000 ∧ ∀ l ∈ M.globs, ∀ x ∈ l, Ins.wf x
  elems : M.elems.length ≤ 1000 ∧ ∀ e ∈ M.elems, e.init.length ≤ 1000 ∧ (∀ y ∈ e.init, ∀ x ∈ y, Ins.wf x) ∧ (∀ x ∈ e.off, Ins.wf x) ∧ 0 ≤ e.table ∧ e.table < 4294967296
  datas : M.datas.length ≤ 1000 ∧ ∀ d ∈ M.datas, d.bytes.length ≤ 100000 ∧ (∀ x ∈ d.bytes, 0 ≤ x ∧ x < 256) ∧ ∀ x ∈ d.off, Ins.wf x
structure Md (w : World) (S : Nat → Prop) (L : Key → Option Ck) (u : Nat) (P : Ptrs) (M : Mo) (s : Ms) : Prop where
  sep : Sep w S L
  mach : L .mach = some (.cl P.mB 0 [.pointer (some ⟨P.cB, P.co, none⟩), .pointer (some ⟨P.iB, 0, none⟩), P.jp])
  cfg : CfgAt L u P.cB P.co s.c
  ins : InsAt w S L u P.iB M s.i
  jou : JAt w S L u P.jp s.j
  wf : Wf M
/-- The others' are as they were. -/
def Keep (u : Nat) (L L' : Key → Option Ck) : Prop := ∀ k, k.own ≠ some u → L' k = L k
/-- What a call leaves. -/
def To (w : World) (S : Nat → Prop) (L : Key → Option Ck) (u : Nat) (P : Ptrs) (M : Mo) (w' : World) (s : Ms) : Prop :=
  ∃ S' L', Md w' S' L' u P M s ∧ Keep u L L' ∧ Ro S w w' ∧ ∀ b, S b → S' b
/-- Of the config only the stack is another one. -/
def SameF (u : Nat) (L L' : Key → Option Ck) : Prop := (∀ q : Key, q ≠ .cfg u → q ≠ .st u → L' q = L q) ∧ ∃ cB co fv sv sv' b b' e e' vv, L (.cfg u) = some (.cl cB co [fv, sv, b, e, vv]) ∧ L' (.cfg u) = some (.cl cB co [fv, sv', b', e', vv])
theorem SameF.trans {u : Nat} {A B C : Key → Option Ck} (h : SameF u A B) (k : SameF u B C) : SameF u A C := by
  obtain ⟨h1, cB, co, fv, sv, sv', b, b', e, e', vv, a1, a2⟩ := h
  obtain ⟨k1, cB2, co2, fv2, sv2, sv2', b2, b2', e2, e2', vv2, c1, c2⟩ := k
  rw [a2] at c1
  cases c1
  exact ⟨fun q x y => (k1 q x y).trans (h1 q x y), cB, co, fv, sv, _, b, _, e, _, vv, a1, c2⟩
def ToS (w : World) (S : Nat → Prop) (L : Key → Option Ck) (u : Nat) (P : Ptrs) (M : Mo) (w' : World) (s : Ms) : Prop :=
  ∃ S' L', Md w' S' L' u P M s ∧ Keep u L L' ∧ Ro S w w' ∧ (∀ b, S b → S' b) ∧ SameF u L L'
theorem ToS.to {w w' : World} {S : Nat → Prop} {L : Key → Option Ck} {u : Nat} {P : Ptrs} {M : Mo} {s : Ms} (h : ToS w S L u P M w' s) : To w S L u P M w' s := by
  obtain ⟨S', L', a, b, c, d, _⟩ := h
  exact ⟨S', L', a, b, c, d⟩
theorem Keep.refl (u : Nat) (L : Key → Option Ck) : Keep u L L := fun _ _ => rfl
theorem Keep.trans {u : Nat} {A B C : Key → Option Ck} (h : Keep u A B) (k : Keep u B C) : Keep u A C := fun x hx => (k x hx).trans (h x hx)
theorem Keep.upd {u : Nat} {A B : Key → Option Ck} (h : Keep u A B) {k : Key} {c : Ck} (hk : k.own = some u) : Keep u A (upd B k c) := fun x hx => by
  rw [upd_other _ _ (by rintro rfl; exact hx hk)]
  exact h x hx
theorem To.refl {w : World} {S : Nat → Prop} {L : Key → Option Ck} {u : Nat} {P : Ptrs} {M : Mo} {s : Ms} (h : Md w S L u P M s) : To w S L u P M w s := ⟨S, L, h, Keep.refl _ _, Ro.refl _ _, fun _ h => h⟩
theorem To.trans {w w1 w2 : World} {S S1 : Nat → Prop} {L L1 : Key → Option Ck} {u : Nat} {P : Ptrs} {M : Mo} {s : Ms} (hk : Keep u L L1) (hr : Ro S w w1) (hS : ∀ b, S b → S1 b) (h : To w1 S1 L1 u P M w2 s) : To w S L u P M w2 s := by
  obtain ⟨S', L', a, b, c, d⟩ := h
  exact ⟨S', L', a, hk.trans b, hr.trans c hS, fun x hx => d x (hS x hx)⟩
end Go.Proofs.YtmnebeikafigjaaGreatDoor
/- step's machine: stuck, ends, push. -/
set_option linter.unusedVariables false
namespace Go.Proofs.YtmnebeikafigjaaGreatDoor
open Go.RowKit Go.Sep Go.St
variable {w : World} {S : Nat → Prop} {L : Key → Option Ck} {u : Nat} {P : Ptrs} {M : Mo} {s : Ms}
theorem JAt.mono {w' : World} {S' : Nat → Prop} {L' : Key → Option Ck} {jp : Value} {J : Option (List Note)} (h : JAt w S L u jp J) (hr : Ro S w w') (hS : ∀ b, S b → S' b) (h1 : L' (.jou u) = L (.jou u)) (h2 : L' (.jl u) = L (.jl u)) : JAt w' S' L' u jp J := by
  cases J with
  | none => exact h
  | some ns =>
    obtain ⟨jB, lv, fs, a, b, c, d, e⟩ := h
    exact ⟨jB, lv, fs, a, h1.trans b, h2.trans c, d, fun k n v x y => (e k n v x y).elim⟩
theorem TabsAt.mono {L' : Key → Option Ck} {tv : Value} {tabs : List (List Int)} (h : TabsAt L u tv tabs) (h1 : L' (.tbs u) = L (.tbs u)) (h2 : ∀ k, L' (.tab u k) = L (.tab u k)) : TabsAt L' u tv tabs := by
  obtain ⟨raws, a, b, c⟩ := h
  exact ⟨raws, a, h1.trans b, fun k l v x y => (h2 k).trans (c k l v x y)⟩
theorem InsAt.mono {w' : World} {S' : Nat → Prop} {L' : Key → Option Ck} {iB : Nat} {I : In} (h : InsAt w S L u iB M I) (hr : Ro S w w') (hS : ∀ b, S b → S' b)
    (h1 : L' (.ins u) = L (.ins u)) (h2 : L' (.mem u) = L (.mem u)) (h3 : L' (.tbs u) = L (.tbs u)) (h4 : ∀ k, L' (.tab u k) = L (.tab u k)) (h5 : L' (.glo u) = L (.glo u)) (h6 : L' (.els u) = L (.els u)) (h7 : L' (.das u) = L (.das u)) : InsAt w' S' L' u iB M I := by
  obtain ⟨mc, bv, mv, tv, gv, ev, dv, a, b, c, d, e, f, g, i⟩ := h
  exact ⟨mc, bv, mv, tv, gv, ev, dv, h1.trans a, b.mono hr hS, c.mono hr hS fun _ _ h => h.mono hr hS, h2.trans d, e.mono h3 h4, h5.trans f, h6.trans g, h7.trans i⟩
/-- Only the config has changed. -/
def Key.cf : Key → Bool
  | .cfg _ => true | .fr _ => true | .st _ => true | .va _ => true | .loc _ _ => true | .lab _ _ => true
  | _ => false
theorem Md.recfg {w' : World} {S' : Nat → Prop} {L' : Key → Option Ck} {C : Cf} (h : Md w S L u P M s) (hs : Sep w' S' L') (hr : Ro S w w') (hS : ∀ b, S b → S' b) (hc : CfgAt L' u P.cB P.co C) (hk : ∀ k : Key, k.cf = false → L' k = L k) :
    Md w' S' L' u P M { s with c := C } :=
  ⟨hs, (hk _ rfl).trans h.mach, hc, h.ins.mono hr hS (hk _ rfl) (hk _ rfl) (hk _ rfl) (fun _ => hk _ rfl) (hk _ rfl) (hk _ rfl) (hk _ rfl), h.jou.mono hr hS (hk _ rfl) (hk _ rfl), h.wf⟩
theorem cf_upd {A B : Key → Option Ck} (h : ∀ k : Key, k.cf = false → B k = A k) {k : Key} {c : Ck} (hk : k.cf = true) : ∀ k' : Key, k'.cf = false → upd B k c k' = A k' := fun k' hk' => by
  rw [upd_other _ _ (by rintro rfl; rw [hk] at hk'; cases hk')]
  exact h k' hk'
theorem cf_del {A B : Key → Option Ck} (h : ∀ k : Key, k.cf = false → B k = A k) {k : Key} (hk : k.cf = true) : ∀ k' : Key, k'.cf = false → Go.Sep.del B k k' = A k' := fun k' hk' => by
  rw [del_other _ (by rintro rfl; rw [hk] at hk'; cases hk')]
  exact h k' hk'
/-- A config that is over. -/
theorem cfg_over {C : Cf} {fv sv vv : Value} (h : Sep w S L) (hC : L (.cfg u) = some (.cl P.cB P.co [fv, sv, .bool C.ov, .int .i64 C.er, vv])) (e : Int) :
    ∃ L', Sep (((((w.setCell ⟨P.cB, P.co, none⟩ (.slice none 0 0)).setCell ⟨P.cB, P.co + 1, none⟩ (.slice none 0 0)).setCell ⟨P.cB, P.co + 2, none⟩ (.bool true)).setCell ⟨P.cB, P.co + 3, none⟩ (.int .i64 e)).setCell ⟨P.cB, P.co + 4, none⟩ (.slice none 0 0)) S L' ∧
      CfgAt L' u P.cB P.co (endsC e) ∧ (∀ k : Key, k.cf = false → L' k = L k) ∧ Keep u L L' ∧
      Ro S w (((((w.setCell ⟨P.cB, P.co, none⟩ (.slice none 0 0)).setCell ⟨P.cB, P.co + 1, none⟩ (.slice none 0 0)).setCell ⟨P.cB, P.co + 2, none⟩ (.bool true)).setCell ⟨P.cB, P.co + 3, none⟩ (.int .i64 e)).setCell ⟨P.cB, P.co + 4, none⟩ (.slice none 0 0)) := by
  obtain ⟨s1, r1⟩ := h.set5 hC (.slice none 0 0) (.slice none 0 0) (.bool true) (.int .i64 e) (.slice none 0 0)
  have s2 := ((s1.nilRow (.fr u) 113 6 none).nilRow (.st u) 26 1 none).nilRow (.va u) 26 1 none
  refine ⟨_, s2, ⟨.slice none 0 0, .slice none 0 0, .slice none 0 0, ?_, ⟨[], rfl, ?_, fun k f r hk => by simp [endsC] at hk⟩, ?_, ?_⟩, ?_, ?_, r1⟩
  · rw [upd_other _ _ (by simp), upd_other _ _ (by simp), upd_other _ _ (by simp), upd_same]; rfl
  · rw [upd_other _ _ (by simp), upd_other _ _ (by simp), upd_same]; rfl
  · rw [upd_other _ _ (by simp), upd_same]; rfl
  · rw [upd_same]; rfl
  · exact cf_upd (cf_upd (cf_upd (cf_upd (fun _ _ => rfl) rfl) rfl) rfl) rfl
  · exact (((Keep.refl u L).upd rfl).upd rfl).upd rfl |>.upd rfl
set_option maxHeartbeats 1000000 in
theorem ends_c (h : Md w S L u P M s) (e : Int) :
    Calls Tryz.prog 49 #[.pointer (some ⟨P.mB, 0, none⟩), .int .i64 e] w fun r w' => r = .returned (.tuple #[]) ∧ To w S L u P M w' { s with c := endsC e } := by
  obtain ⟨fv, sv, vv, hC, _⟩ := h.cfg
  have m0 := h.sep.cell0 h.mach 0 _ rfl
  have c0 := h.sep.cellA hC
  have c1 := h.sep.cell hC 1 _ rfl
  have c2 := h.sep.cell hC 2 _ rfl
  have c3 := h.sep.cell hC 3 _ rfl
  have c4 := h.sep.cell hC 4 _ rfl
  have z0 := h.sep.frozen hC P.co
  have z1 := h.sep.frozen hC (P.co + 1)
  have z2 := h.sep.frozen hC (P.co + 2)
  have z3 := h.sep.frozen hC (P.co + 3)
  have z4 := h.sep.frozen hC (P.co + 4)
  obtain ⟨L', s1, s2, s3, s4, s5⟩ := cfg_over h.sep hC e
  have KEY := Lib.hid (⟨S, L', h.recfg s1 s5 (fun _ h => h) s2 s3, s4, s5, fun _ h => h⟩ : To w S L u P M _ { s with c := endsC e })
  clear h hC s1 s2 s3 s4 s5
  go_enter Tryz.func49, Tryz.ntmps49
  go_wp2
  go_end0
  exact ⟨rfl, KEY.out⟩
end Go.Proofs.YtmnebeikafigjaaGreatDoor
/- A region of open order: what is read may be taken first, where nothing that may come ahead of it writes it (Z: operations that wait for all that is taken so; what they write is no matter). -/
namespace Go.Sep
variable {P : Program} {ops : Array Oper} {Q : Exit → Act → World → Prop} {md : Region.Mode} {S : World → Prop} {Z : Nat → Bool}
def wpZ (P : Program) (md : Region.Mode) (ops : Array Oper) (Q : Exit → Act → World → Prop) (S : World → Prop) (Z : Nat → Bool) : Nat → Array Bool → Act → World → Prop
  | 0, listed, a, w => Region.ready md ops listed = [] ∧ Q .normal a w
  | fuel + 1, listed, a, w => (Region.ready md ops listed = [] → Q .normal a w) ∧
    ∀ i ∈ Region.ready md ops listed, wpOp P ops Q i (fun a' w' => (Z i = false → S w') ∧ wpZ P md ops Q S Z fuel (listed.setIfInBounds i true) a' w') a w
theorem wpAny_of_z : ∀ (fuel : Nat) (listed : Array Bool) (a : Act) (w : World), wpZ P md ops Q S Z fuel listed a w → wpAny P md ops Q fuel listed a w
  | 0, _, _, _, h => h
  | fuel + 1, _, _, _, h => ⟨h.1, fun i hi => wpOp_mono (fun a' w' h' => wpAny_of_z fuel _ a' w' h'.2) (h.2 i hi)⟩
/-- j waits for i, at once or by another one. -/
def reach (md : Region.Mode) (ops : Array Oper) (i : Nat) : Nat → Nat → Bool
  | 0, _ => false
  | fuel + 1, j => match ops[j]? with
    | some o => o.after.any fun e => Region.binds md e && (e.on == i || reach md ops i fuel e.on)
    | none => false
/-- Whoever is in Z waits for i. -/
def waits (md : Region.Mode) (ops : Array Oper) (Z : Nat → Bool) (i : Nat) : Bool := (List.range ops.size).all fun j => j == i || !Z j || reach md ops i ops.size j
def closedB (md : Region.Mode) (ops : Array Oper) (listed : Array Bool) : Bool := (List.range ops.size).all fun j => !listed.getD j true || match ops[j]? with
  | some o => o.after.all fun e => !Region.binds md e || listed.getD e.on false
  | none => true
def ClosedL (md : Region.Mode) (ops : Array Oper) (listed : Array Bool) : Prop := ∀ j o, ops[j]? = some o → listed.getD j true = true → ∀ e ∈ o.after, Region.binds md e = true → listed.getD e.on false = true
theorem closedL_of {listed : Array Bool} (h : closedB md ops listed = true) : ClosedL md ops listed := by
  intro j o ho hl e he hb
  have hlt := (Array.getElem?_eq_some_iff.1 ho).1
  have h1 := List.all_eq_true.1 h j (List.mem_range.2 hlt)
  rw [hl, ho] at h1
  simp only [Bool.not_true, Bool.false_or, Array.all_eq_true'] at h1
  have := h1 e he
  rw [hb] at this
  simpa using this
theorem reach_listed {i : Nat} {listed : Array Bool} (hc : ClosedL md ops listed) : ∀ (fuel j : Nat) (o : Oper), ops[j]? = some o → reach md ops i fuel j = true → (∀ e ∈ o.after, Region.binds md e = true → listed.getD e.on false = true) → listed.getD i false = true
  | 0, _, _, _, h, _ => by cases h
  | fuel + 1, j, o, ho, h, hall => by
    simp only [reach, ho, Array.any_eq_true] at h
    obtain ⟨k, hk, he⟩ := h
    simp only [Bool.and_eq_true, Bool.or_eq_true, beq_iff_eq] at he
    have h1 := hall _ (Array.getElem_mem hk) he.1
    rcases he.2 with h2 | h2
    · rw [← h2]; exact h1
    · cases fuel with
      | zero => cases h2
      | succ fuel =>
        cases ho2 : ops[o.after[k].on]? with
        | none => simp only [reach, ho2] at h2; cases h2
        | some o2 => exact reach_listed hc (fuel + 1) _ o2 ho2 h2 (hc _ o2 ho2 (by
            rcases Nat.lt_or_ge o.after[k].on listed.size with h' | h'
            · simp [h'] at h1 ⊢; exact h1
            · simp [Array.getElem?_eq_none h'] at h1))
theorem not_ready {i j : Nat} {listed : Array Bool} {o : Oper} (hc : ClosedL md ops listed) (ho : ops[j]? = some o) (hw : reach md ops i ops.size j = true) (hi : i ∈ Region.ready md ops listed) : j ∉ Region.ready md ops listed := by
  intro hj
  obtain ⟨_, o', ho', hall⟩ := mem_ready.1 hj
  rw [ho] at ho'
  cases ho'
  have h1 := reach_listed hc _ _ _ ho hw hall
  have h0 := (mem_ready.1 hi).1
  rcases Nat.lt_or_ge i listed.size with h' | h'
  · simp [h'] at h0 h1; rw [h0] at h1; cases h1
  · simp [Array.getElem?_eq_none h'] at h1
theorem closed_set {j : Nat} {listed : Array Bool} (hc : ClosedL md ops listed) (hj : j ∈ Region.ready md ops listed) : ClosedL md ops (listed.setIfInBounds j true) := by
  intro d o ho hl e he hb
  refine getD_set_true ?_
  by_cases hd : d = j
  · subst hd
    obtain ⟨_, o', ho', hall⟩ := mem_ready.1 hj
    rw [ho] at ho'
    cases ho'
    exact hall e he hb
  · rw [getD_set_ne true (Ne.symm hd)] at hl
    exact hc d o ho hl e he hb
theorem wpZ_first {i : Nat} {oi : Oper} {v : Value} (hi : ops[i]? = some oi) (hsel : ∀ (j : Nat) (o : Oper) cs b, ops[j]? = some o → o.op ≠ .select cs b)
    (hQ : ∀ c a w, Q (.panic c) (a.put oi.dst v) w → Q (.panic c) a w) (hz : waits md ops Z i = true) :
    ∀ (fuel : Nat) (listed : Array Bool) (a : Act) (w : World), ClosedL md ops listed →
      (∀ j oj, ops[j]? = some oj → j ≠ i → listed.getD j true = false → (∀ e ∈ oj.after, Region.binds md e = true → e.on ≠ i) → oi.apart ops oj = true) →
      i ∈ Region.ready md ops listed → YieldsIf P ops S oi v a → S w →
      wpZ P md ops Q S Z fuel (listed.setIfInBounds i true) (a.put oi.dst v) w → wpZ P md ops Q S Z (fuel + 1) listed a w := by
  intro fuel
  induction fuel with
  | zero =>
    intro listed a w _ _ hr hy hS H
    refine ⟨fun h => (by rw [h] at hr; cases hr), fun j hj => ?_⟩
    by_cases hji : j = i
    · subst hji; exact hy.wpOp hi hS ⟨fun _ => hS, H⟩
    · have := ready_mono hj hji
      rw [H.1] at this
      cases this
  | succ fuel ih =>
    intro listed a w hcl hfree hr hy hS H
    refine ⟨fun h => (by rw [h] at hr; cases hr), fun j hj => ?_⟩
    by_cases hji : j = i
    · subst hji; exact hy.wpOp hi hS ⟨fun _ => hS, H⟩
    · have h1 := H.2 j (ready_mono hj hji)
      obtain ⟨hjun, oj, hoj, hall⟩ := mem_ready.1 hj
      have hZ : Z j = false := by
        cases hzj : Z j with
        | false => rfl
        | true =>
          exfalso
          have hlt := (Array.getElem?_eq_some_iff.1 hoj).1
          have := List.all_eq_true.1 hz j (List.mem_range.2 hlt)
          rw [hzj] at this
          exact not_ready hcl hoj (by simpa [hji] using this) hr hj
      have hnot : ∀ e ∈ oj.after, Region.binds md e = true → e.on ≠ i := fun e he hb heq => by
        have h1 := hall e he hb
        have h0 := (mem_ready.1 hr).1
        rw [heq] at h1
        rcases Nat.lt_or_ge i listed.size with h' | h'
        · simp [h'] at h0 h1; rw [h0] at h1; cases h1
        · simp [Array.getElem?_eq_none h'] at h1
      have h2 := wpOp_putIf hoj (hfree j oj hoj hji hjun hnot) (fun cs b => hsel i oi cs b hi) (fun cs b => hsel j oj cs b hoj) hQ hy h1
      have hfree' : ∀ k ok, ops[k]? = some ok → k ≠ i → (listed.setIfInBounds j true).getD k true = false →
          (∀ e ∈ ok.after, Region.binds md e = true → e.on ≠ i) → oi.apart ops ok = true := fun k ok hk hki hun hno => by
        refine hfree k ok hk hki ?_ hno
        by_cases hjk : j = k
        · subst hjk; exact hjun
        · rw [getD_set_ne true hjk] at hun; exact hun
      refine wpOp_mono (fun a' w' h3 => ⟨h3.2.1, ih (listed.setIfInBounds j true) a' w' (closed_set hcl hj) hfree' (ready_mono hr (Ne.symm hji)) h3.1 (h3.2.1 hZ) ?_⟩) h2
      rw [Array.setIfInBounds_comm _ _ hji]
      exact h3.2.2
theorem wpZ_take {i : Nat} {oi : Oper} {v : Value} {fuel : Nat} {listed : Array Bool} {a : Act} {w : World} (hi : ops[i]? = some oi)
    (hc : (Region.noSelect ops && Region.free md ops listed i && (Region.ready md ops listed).contains i && waits md ops Z i && closedB md ops listed) = true)
    (hQ : ∀ c a w, Q (.panic c) (a.put oi.dst v) w → Q (.panic c) a w) (hS : S w) (hy : YieldsIf P ops S oi v a)
    (h : wpZ P md ops Q S Z fuel (listed.setIfInBounds i true) (a.put oi.dst v) w) : wpZ P md ops Q S Z (fuel + 1) listed a w := by
  simp only [Bool.and_eq_true] at hc
  exact wpZ_first hi (Region.noSelect_spec hc.1.1.1.1) hQ hc.1.2 fuel listed a w (closedL_of hc.2) (Region.free_spec hi hc.1.1.1.2) (by simpa using hc.1.1.2) hy hS h
/-- One alone may come up. -/
theorem wpZ_one {i : Nat} {oi : Oper} {fuel : Nat} {listed : Array Bool} {a : Act} {w : World} (hi : ops[i]? = some oi) (hr : Region.ready md ops listed = [i])
    (h : ∀ K : Act → World → Prop, Shut (∀ a' w', (Z i = false → S w') → ((Z i = false → S w') → wpZ P md ops Q S Z fuel (listed.setIfInBounds i true) a' w') → K a' w') →
      if Region.wanted oi (yielded ops a.tmps) = true then Oper.wp P oi a w K Q else K (a.put oi.dst undef) w) : wpZ P md ops Q S Z (fuel + 1) listed a w := by
  refine ⟨fun h0 => (by rw [hr] at h0; cases h0), fun j hj => ?_⟩
  rw [hr] at hj
  obtain rfl := List.mem_singleton.1 hj
  exact wpOp_step hi (fun K' hK => h K' (fun a w hS hW => hK a w ⟨hS, hW hS⟩))
theorem wpZ_two {i j : Nat} {oi oj : Oper} {fuel : Nat} {listed : Array Bool} {a : Act} {w : World} (hi : ops[i]? = some oi) (hj : ops[j]? = some oj) (hr : Region.ready md ops listed = [i, j])
    (h : ∀ K : Act → World → Prop, Shut (∀ a' w', (Z i = false → S w') → ((Z i = false → S w') → wpZ P md ops Q S Z fuel (listed.setIfInBounds i true) a' w') → K a' w') →
      if Region.wanted oi (yielded ops a.tmps) = true then Oper.wp P oi a w K Q else K (a.put oi.dst undef) w)
    (h2 : ∀ K : Act → World → Prop, Shut (∀ a' w', (Z j = false → S w') → ((Z j = false → S w') → wpZ P md ops Q S Z fuel (listed.setIfInBounds j true) a' w') → K a' w') →
      if Region.wanted oj (yielded ops a.tmps) = true then Oper.wp P oj a w K Q else K (a.put oj.dst undef) w) : wpZ P md ops Q S Z (fuel + 1) listed a w := by
  refine ⟨fun h0 => (by rw [hr] at h0; cases h0), fun k hk => ?_⟩
  rw [hr] at hk
  rcases List.mem_cons.1 hk with rfl | hk
  · exact wpOp_step hi (fun K' hK => h K' (fun a w hS hW => hK a w ⟨hS, hW hS⟩))
  · obtain rfl := List.mem_singleton.1 hk
    exact wpOp_step hj (fun K' hK => h2 K' (fun a w hS hW => hK a w ⟨hS, hW hS⟩))
theorem wpZ_done {listed : Array Bool} {a : Act} {w : World} (hr : Region.ready md ops listed = []) (h : Q .normal a w) : ∀ fuel, wpZ P md ops Q S Z fuel listed a w
  | 0 => ⟨hr, h⟩
  | _ + 1 => ⟨fun _ => h, by rw [hr]; simp⟩
theorem wp_region_z {id : Nat} {a : Act} {w : World} (S : World → Prop) (Z : Nat → Bool) (hm : P.follows .mixedOrders = true) (hS : S w.drew)
    (h : S w.drew → wpZ P .any ops Q S Z ops.size (Array.replicate ops.size false) a w.drew) : (Code.region id ops true).wp P Q a w :=
  wp_region_any hm (wpAny_of_z _ _ _ _ (h hS))
end Go.Sep
/- step's machine: push. -/
set_option linter.unusedVariables false
namespace Go.Proofs.YtmnebeikafigjaaGreatDoor
open Go.RowKit Go.Sep Go.St
variable {w : World} {S : Nat → Prop} {L : Key → Option Ck} {u : Nat} {P : Ptrs} {M : Mo} {s : Ms}
theorem infoU64 : (Tryz.prog.info? 26).map (fun i => (i.zero, i.size, i.bytes)) = some (some (.int .u64 0), 1, 8) := by kernel_rfl
section
variable {P : Program} {w : World} {ops : Array Oper} {rest : List Oper} {o : Oper} {a : Act} {K : Act → World → Prop} {Q : Exit → Act → World → Prop} {E : Prop}
theorem wp_append_row (s x : Operand) (t : TypeId)
    (ho : o.op = .call { callee := .builtin .append, args := #[s, x], argTypes := #[t, t] }) (e sz : Nat) (z : Value) (bytes : Nat) (ht : P.underlying t = some (.slice e))
    (hinfo : (P.info? e).map (fun i => (i.zero, i.size, i.bytes)) = some (some z, sz, bytes)) (hzs : z.cells.size = sz) (hsz : 0 < sz) (hb : 0 < bytes)
    (v : Value) (xs : List Value) (hs : a.eval s = v) (A : Option Addr) (m c : Nat) (ys : List Value) (hx : a.eval x = .slice A m c)
    (h : Row w e sz v xs) (hy : Rd w sz A m ys) (h1 : ∀ u ∈ ys, u.oneCell' = true) (hbytes : (xs.length + ys.length) * bytes ≤ 140737488355328)
    (hK : ∀ B n c w', Hid (Row w' e sz (.slice B n c) (xs ++ ys)) → Hid (w.grownBy w' (rowBlock v)) → Hid (rowBlock (.slice B n c) = rowBlock v ∨ ∃ b, rowBlock (.slice B n c) = some b ∧ w.heap.size ≤ b) → K (a.put o.dst (.slice B n c)) w') :
    Oper.wp P o a w K Q := by
  obtain ⟨v', w', hr, h2, h3, h4⟩ := h.append (P := P) t o.type z bytes ht hinfo hzs hsz A m c ys hy h1 hb hbytes
  unfold Oper.wp execOp
  simp only [ho, resolve, invoke, builtin, Sem.run_bind, Sem.run_pure, Result.andThen_ok, List.map_toArray, List.map_cons, List.map_nil, hs, hx, hr]
  obtain ⟨B, n, cc, rfl, _⟩ := id h2
  exact hK B n cc w' (Lib.hid h2) (Lib.hid h3) (Lib.hid h4)
/-- append at a step of a region that draws. -/
theorem step_append_row (hgd : o.guard = none) (s x : Operand) (t : TypeId)
    (ho : o.op = .call { callee := .builtin .append, args := #[s, x], argTypes := #[t, t] }) (e sz : Nat) (z : Value) (bytes : Nat) (ht : P.underlying t = some (.slice e))
    (hinfo : (P.info? e).map (fun i => (i.zero, i.size, i.bytes)) = some (some z, sz, bytes)) (hzs : z.cells.size = sz) (hsz : 0 < sz) (hb : 0 < bytes)
    (v : Value) (xs : List Value) (hs : a.eval s = v) (A : Option Addr) (m c : Nat) (ys : List Value) (hx : a.eval x = .slice A m c)
    (h : Row w e sz v xs) (hy : Rd w sz A m ys) (h1 : ∀ u ∈ ys, u.oneCell' = true) (hbytes : (xs.length + ys.length) * bytes ≤ 140737488355328)
    (hK : ∀ B n c w', Hid (Row w' e sz (.slice B n c) (xs ++ ys)) → Hid (w.grownBy w' (rowBlock v)) → Hid (rowBlock (.slice B n c) = rowBlock v ∨ ∃ b, rowBlock (.slice B n c) = some b ∧ w.heap.size ≤ b) → K (a.put o.dst (.slice B n c)) w') :
    if Region.wanted o (yielded ops a.tmps) = true then Oper.wp P o a w K Q else E := by
  have hw : Region.wanted o (yielded ops a.tmps) = true := by simp [Region.wanted, hgd]
  rw [if_pos hw]
  exact wp_append_row s x t ho e sz z bytes ht hinfo hzs hsz hb v xs hs A m c ys hx h hy h1 hbytes hK
theorem wpList_append_row (hgd : o.guard = none) (s x : Operand) (t : TypeId)
    (ho : o.op = .call { callee := .builtin .append, args := #[s, x], argTypes := #[t, t] }) (e sz : Nat) (z : Value) (bytes : Nat) (ht : P.underlying t = some (.slice e))
    (hinfo : (P.info? e).map (fun i => (i.zero, i.size, i.bytes)) = some (some z, sz, bytes)) (hzs : z.cells.size = sz) (hsz : 0 < sz) (hb : 0 < bytes)
    (v : Value) (xs : List Value) (hs : a.eval s = v) (A : Option Addr) (m c : Nat) (ys : List Value) (hx : a.eval x = .slice A m c)
    (h : Row w e sz v xs) (hy : Rd w sz A m ys) (h1 : ∀ u ∈ ys, u.oneCell' = true) (hbytes : (xs.length + ys.length) * bytes ≤ 140737488355328)
    (hK : ∀ B n c w', Hid (Row w' e sz (.slice B n c) (xs ++ ys)) → Hid (w.grownBy w' (rowBlock v)) → Hid (rowBlock (.slice B n c) = rowBlock v ∨ ∃ b, rowBlock (.slice B n c) = some b ∧ w.heap.size ≤ b) → wpList P ops Q rest (a.put o.dst (.slice B n c)) w') :
    wpList P ops Q (o :: rest) a w :=
  wpList_plain hgd fun _ hK' => wp_append_row s x t ho e sz z bytes ht hinfo hzs hsz hb v xs hs A m c ys hx h hy h1 hbytes fun B n c w' a b c' => hK' _ _ (hK B n c w' a b c')
end
/-- The stack is another row now. -/
theorem stack_put {w : World} {fv sv vv : Value} {w1 : World} {xs : List Int} {v1 : Value} (h : Md w S L u P M s) (hC : L (.cfg u) = some (.cl P.cB P.co [fv, sv, .bool s.c.ov, .int .i64 s.c.er, vv])) (hF : FrsAt L u fv s.c.frs)
    (hS : L (.st u) = some (.rw 26 1 sv (ints .u64 s.c.st))) (hV : L (.va u) = some (.rw 26 1 vv (ints .u64 s.c.va)))
    (hr : Row w1 26 1 v1 (ints .u64 xs)) (hg : w.grownBy w1 (rowBlock sv)) (ha : rowBlock v1 = rowBlock sv ∨ ∃ b, rowBlock v1 = some b ∧ w.heap.size ≤ b) :
    ToS w S L u P M (w1.setCell ⟨P.cB, P.co + 1, none⟩ v1) { s with c := { s.c with st := xs } } := by
  obtain ⟨s1, r1⟩ := h.sep.grow hS hr hg ha
  have hC1 : upd L (.st u) (.rw 26 1 v1 (ints .u64 xs)) (.cfg u) = some (.cl P.cB P.co [fv, sv, .bool s.c.ov, .int .i64 s.c.er, vv]) := by rw [upd_other _ _ (by simp)]; exact hC
  have s2 := s1.set hC1 1 (by simp) v1
  have r2 := r1.trans' (s1.ro_setCell hC1 (P.co + 1) v1)
  refine ⟨S, _, h.recfg s2 r2 (fun _ h => h) ⟨fv, v1, vv, ?_, ?_, ?_, ?_⟩ (cf_upd (cf_upd (fun _ _ => rfl) rfl) rfl), ((Keep.refl u L).upd rfl).upd rfl, r2, fun _ h => h, ⟨fun q x y => by rw [upd_other _ _ x, upd_other _ _ y], _, _, _, _, _, _, _, _, _, _, hC, upd_same _ _ _⟩⟩
  · rw [upd_same]; rfl
  · obtain ⟨raws, a, b, c⟩ := hF
    refine ⟨raws, a, ?_, fun k f r x y => ?_⟩
    · rw [upd_other _ _ (by simp), upd_other _ _ (by simp)]; exact b
    · rw [upd_other _ _ (by simp), upd_other _ _ (by simp), upd_other _ _ (by simp), upd_other _ _ (by simp)]; exact c k f r x y
  · rw [upd_other _ _ (by simp), upd_same]
  · rw [upd_other _ _ (by simp), upd_other _ _ (by simp)]; exact hV
set_option maxHeartbeats 1000000 in
theorem push_c (h : Md w S L u P M s) (A : Option Addr) (m c : Nat) (ys : List Int) (hy : Rd w 1 A m (ints .u64 ys)) (hb : s.c.st.length + ys.length ≤ 1000000000) :
    Calls Tryz.prog 81 #[.pointer (some ⟨P.mB, 0, none⟩), .slice A m c] w fun e w' => e = .returned (.tuple #[]) ∧ To w S L u P M w' { s with c := { s.c with st := s.c.st ++ ys } } := by
  obtain ⟨fv, sv, vv, hC, hF, hS, hV⟩ := h.cfg
  have m0 := h.sep.cell0 h.mach 0 _ rfl
  have c1 := h.sep.cell hC 1 _ rfl
  have hd : Md w.drew S L u P M s := h.recfg h.sep.drew ⟨⟨Nat.le_refl _, rfl, rfl⟩, fun _ _ => rfl⟩ (fun _ h => h) h.cfg (fun _ _ => rfl)
  have key : ∀ v1 w1, Row w1 26 1 v1 (ints .u64 s.c.st ++ ints .u64 ys) → w.drew.grownBy w1 (rowBlock sv) → (rowBlock v1 = rowBlock sv ∨ ∃ b, rowBlock v1 = some b ∧ w.drew.heap.size ≤ b) →
      To w S L u P M (w1.setCell ⟨P.cB, P.co + 1, none⟩ v1) { s with c := { s.c with st := s.c.st ++ ys } } := by
    intro v1 w1 r g a
    rw [← ints_app] at r
    obtain ⟨S', L', x1, x2, x3, x4, _⟩ := stack_put hd hC hF hS hV r g a
    exact ⟨S', L', x1, x2, x3, x4⟩
  have cl : ∀ w1, w.drew.grownBy w1 (rowBlock sv) → w1.cell? ⟨P.cB, P.co + 1, none⟩ = some sv ∧ w1.cell? ⟨P.mB, 0, none⟩ = some (.pointer (some ⟨P.cB, P.co, none⟩)) ∧ w1.frozen? ⟨P.cB, P.co + 1, none⟩ = false := by
    intro w1 g
    exact ⟨(h.sep.drew.grown_cell hS g hC _ rfl).1.trans c1, (h.sep.drew.grown_cell hS g h.mach _ rfl).1.trans m0, (h.sep.drew.grown_cell hS g hC _ rfl).2.trans (h.sep.frozen hC (P.co + 1))⟩
  have KEY := Lib.hid key
  have CL := Lib.hid cl
  have HR := Lib.hid (h.sep.holds _ _ hS)
  have HY := Lib.hid hy
  have hbytes : ((ints .u64 s.c.st).length + (ints .u64 ys).length) * 8 ≤ 140737488355328 := by rw [ints_len, ints_len]; omega
  clear h hd hC hF hS hV key cl hy
  go_enter Tryz.func81, Tryz.ntmps81
  go_wp2_with fail
  refine wp_region_z (fun w' => w'.cell? ⟨P.mB, 0, none⟩ = some (.pointer (some ⟨P.cB, P.co, none⟩)) ∧ w'.cell? ⟨P.cB, P.co + 1, none⟩ = some sv) (fun j => j == 13 || j == 14 || j == 15) (by kernel_rfl) ?_ (fun hHeld => ?_)
  · first | exact ⟨m0, c1⟩ | exact ⟨q2, q1⟩
  (refine wpZ_take (i := 0) (oi := ⟨some 4, .move (.tmp 0), 103, _, _, none⟩) (v := ?_) rfl (by kernel_rfl) (fun _ _ _ h => h) (by assumption) (Or.inl ⟨by rfl, ?_⟩) ?_; rotate_left 1; · ((intro w hSw; (try dsimp only at hSw); go_split_ands; go_simp) <;> (try with_reducible rfl)))
  try simp only [Act.put, List.setIfInBounds_toArray, List.set_cons_zero, List.set_cons_succ]
  (refine wpZ_take (i := 1) (oi := ⟨some 5, .nilCheck (.tmp 4), 0, _, _, none⟩) (v := ?_) rfl (by kernel_rfl) (fun _ _ _ h => h) (by assumption) (Or.inl ⟨by rfl, ?_⟩) ?_; rotate_left 1; · ((intro w hSw; (try dsimp only at hSw); go_split_ands; go_simp) <;> (try with_reducible rfl)))
  try simp only [Act.put, List.setIfInBounds_toArray, List.set_cons_zero, List.set_cons_succ]
  (refine wpZ_take (i := 2) (oi := ⟨some 6, .fieldAddr 105 (.tmp 5) 0, 0, _, _, none⟩) (v := ?_) rfl (by kernel_rfl) (fun _ _ _ h => h) (by assumption) (Or.inl ⟨by rfl, ?_⟩) ?_; rotate_left 1; · ((intro w hSw; (try dsimp only at hSw); go_split_ands; go_simp) <;> (try with_reducible rfl)))
  try simp only [Act.put, List.setIfInBounds_toArray, List.set_cons_zero, List.set_cons_succ]
  (refine wpZ_take (i := 3) (oi := ⟨some 7, .load 62 (.tmp 6), 62, _, _, none⟩) (v := ?_) rfl (by kernel_rfl) (fun _ _ _ h => h) (by assumption) (Or.inl ⟨by rfl, ?_⟩) ?_; rotate_left 1; · ((intro w hSw; (try dsimp only at hSw); go_split_ands; go_simp) <;> (try with_reducible rfl)))
  try simp only [Act.put, List.setIfInBounds_toArray, List.set_cons_zero, List.set_cons_succ]
  (refine wpZ_take (i := 4) (oi := ⟨some 8, .move (.tmp 0), 103, _, _, none⟩) (v := ?_) rfl (by kernel_rfl) (fun _ _ _ h => h) (by assumption) (Or.inl ⟨by rfl, ?_⟩) ?_; rotate_left 1; · ((intro w hSw; (try dsimp only at hSw); go_split_ands; go_simp) <;> (try with_reducible rfl)))
  try simp only [Act.put, List.setIfInBounds_toArray, List.set_cons_zero, List.set_cons_succ]
  (refine wpZ_take (i := 5) (oi := ⟨some 9, .nilCheck (.tmp 8), 0, _, _, none⟩) (v := ?_) rfl (by kernel_rfl) (fun _ _ _ h => h) (by assumption) (Or.inl ⟨by rfl, ?_⟩) ?_; rotate_left 1; · ((intro w hSw; (try dsimp only at hSw); go_split_ands; go_simp) <;> (try with_reducible rfl)))
  try simp only [Act.put, List.setIfInBounds_toArray, List.set_cons_zero, List.set_cons_succ]
  (refine wpZ_take (i := 6) (oi := ⟨some 10, .fieldAddr 105 (.tmp 9) 0, 0, _, _, none⟩) (v := ?_) rfl (by kernel_rfl) (fun _ _ _ h => h) (by assumption) (Or.inl ⟨by rfl, ?_⟩) ?_; rotate_left 1; · ((intro w hSw; (try dsimp only at hSw); go_split_ands; go_simp) <;> (try with_reducible rfl)))
  try simp only [Act.put, List.setIfInBounds_toArray, List.set_cons_zero, List.set_cons_succ]
  (refine wpZ_take (i := 7) (oi := ⟨some 11, .load 62 (.tmp 10), 62, _, _, none⟩) (v := ?_) rfl (by kernel_rfl) (fun _ _ _ h => h) (by assumption) (Or.inl ⟨by rfl, ?_⟩) ?_; rotate_left 1; · ((intro w hSw; (try dsimp only at hSw); go_split_ands; go_simp) <;> (try with_reducible rfl)))
  try simp only [Act.put, List.setIfInBounds_toArray, List.set_cons_zero, List.set_cons_succ]
  (refine wpZ_take (i := 8) (oi := ⟨some 12, .nilCheck (.tmp 11), 0, _, _, none⟩) (v := ?_) rfl (by kernel_rfl) (fun _ _ _ h => h) (by assumption) (Or.inl ⟨by rfl, ?_⟩) ?_; rotate_left 1; · ((intro w hSw; (try dsimp only at hSw); go_split_ands; go_simp) <;> (try with_reducible rfl)))
  try simp only [Act.put, List.setIfInBounds_toArray, List.set_cons_zero, List.set_cons_succ]
  (refine wpZ_take (i := 9) (oi := ⟨some 13, .fieldAddr 59 (.tmp 12) 1, 0, _, _, none⟩) (v := ?_) rfl (by kernel_rfl) (fun _ _ _ h => h) (by assumption) (Or.inl ⟨by rfl, ?_⟩) ?_; rotate_left 1; · ((intro w hSw; (try dsimp only at hSw); go_split_ands; go_simp) <;> (try with_reducible rfl)))
  try simp only [Act.put, List.setIfInBounds_toArray, List.set_cons_zero, List.set_cons_succ]
  (refine wpZ_take (i := 10) (oi := ⟨some 14, .load 57 (.tmp 13), 57, _, _, none⟩) (v := ?_) rfl (by kernel_rfl) (fun _ _ _ h => h) (by assumption) (Or.inl ⟨by rfl, ?_⟩) ?_; rotate_left 1; · ((intro w hSw; (try dsimp only at hSw); go_split_ands; go_simp) <;> (try with_reducible rfl)))
  try simp only [Act.put, List.setIfInBounds_toArray, List.set_cons_zero, List.set_cons_succ]
  (refine wpZ_take (i := 11) (oi := ⟨some 15, .move (.tmp 1), 57, _, _, none⟩) (v := ?_) rfl (by kernel_rfl) (fun _ _ _ h => h) (by assumption) (Or.inl ⟨by rfl, ?_⟩) ?_; rotate_left 1; · ((intro w hSw; (try dsimp only at hSw); go_split_ands; go_simp) <;> (try with_reducible rfl)))
  try simp only [Act.put, List.setIfInBounds_toArray, List.set_cons_zero, List.set_cons_succ]
  refine wpZ_one (i := 12) (oi := ⟨some 16, .call { callee := .builtin .append, args := #[.tmp 14, .tmp 15], argTypes := #[57, 57] }, 57, _, _, none⟩) rfl (by kernel_rfl) (fun K hK => ?_)
  refine step_append_row (by rfl) _ _ _ (by rfl) 26 1 _ 8 Tryz.underlying57 infoU64 rfl (by omega) (by omega) sv _ (by rfl) A m c _ (by rfl) HR.out HY.out (ints_one _ _) hbytes ?_; intro B1 n1 c2 w1 hr1 hg1 ha1; obtain ⟨q1, q2, q3⟩ := CL.out w1 hg1.out
  refine hK.out _ _ (fun _ => by (first | exact ⟨m0, c1⟩ | exact ⟨q2, q1⟩)) (fun hh => ?_)
  have hHeld := hh rfl
  clear hK K
  try simp only [Act.put, List.setIfInBounds_toArray, List.set_cons_zero, List.set_cons_succ]
  refine wpZ_one (i := 13) (oi := ⟨some 17, .nilCheck (.tmp 7), 0, _, _, none⟩) rfl (by kernel_rfl) (fun K hK => ?_)
  go_simp
  refine hK.out _ _ (fun h => by simp at h) (fun _ => ?_)
  clear hK K
  try simp only [Act.put, List.setIfInBounds_toArray, List.set_cons_zero, List.set_cons_succ]
  refine wpZ_one (i := 14) (oi := ⟨some 18, .fieldAddr 59 (.tmp 17) 1, 0, _, _, none⟩) rfl (by kernel_rfl) (fun K hK => ?_)
  go_simp
  refine hK.out _ _ (fun h => by simp at h) (fun _ => ?_)
  clear hK K
  try simp only [Act.put, List.setIfInBounds_toArray, List.set_cons_zero, List.set_cons_succ]
  refine wpZ_one (i := 15) (oi := ⟨none, .store 57 (.tmp 18) (.tmp 16), 0, _, _, none⟩) rfl (by kernel_rfl) (fun K hK => ?_)
  go_simp
  refine hK.out _ _ (fun h => by simp at h) (fun _ => ?_)
  clear hK K
  try simp only [Act.put, List.setIfInBounds_toArray, List.set_cons_zero, List.set_cons_succ]
  refine wpZ_done (by kernel_rfl) ?_ _
  go_wp2
  go_end0
  exact ⟨rfl, KEY.out _ _ hr1.out hg1.out ha1.out⟩
/-- A fresh row of its own. -/
def Fresh (w : World) (e : Nat) (xs : List Value) (r : Ending) (w' : World) : Prop := ∃ B n c', r = .returned (.slice B n c') ∧ Row w' e 1 (.slice B n c') xs ∧ w.grownBy w' none ∧ ∀ b, rowBlock (.slice B n c') = some b → w.heap.size ≤ b
/-- slices.Clone of numbers. -/
theorem clone_c (w : World) (A : Option Addr) (n c : Nat) (xs : List Int) (hA : A = none → c = 0) (hnc : n ≤ c) (hr : Rd w 1 A n (ints .u64 xs)) (hb : xs.length ≤ 1000000000) :
    Calls Tryz.prog 55 #[.slice A n c] w (Fresh w 26 (ints .u64 xs)) := by
  cases A with
  | none =>
    obtain rfl := hA rfl
    obtain rfl : n = 0 := by omega
    have hx : xs = [] := List.eq_nil_of_length_eq_zero (by have := hr.1; rw [ints_len] at this; omega)
    subst hx
    clear hr hb hA hnc
    go_enter Tryz.func55, Tryz.ntmps55
    have e1 := fun w => Lib.run_eql_slice_nil (P := Tryz.prog) w 57 26 none 0 0 0 0 Tryz.underlying57
    go_wp2
    go_ret
    exact ⟨none, 0, 0, rfl, row_nil _ _ _ _, ⟨rfl, rfl, rfl, Nat.le_refl _, fun _ _ _ => rfl⟩, fun b hb => by simp [rowBlock] at hb⟩
  | some ad =>
    have HR := Lib.hid hr
    have hnx : n = xs.length := by have := hr.1; rw [ints_len] at this; omega
    have hbytes : (([] : List Value).length + (ints .u64 xs).length) * 8 ≤ 140737488355328 := by rw [ints_len]; simp; omega
    have e1 := fun w => Lib.run_eql_slice_nil (P := Tryz.prog) w 57 26 (some ad) n c 0 0 Tryz.underlying57
    have rdA : ∀ o, Rd (w.alloc o) 1 (some ad) n (ints .u64 xs) := fun o => hr.alloc o
    have fin : ∀ (w1 : World) o, (w.alloc o).grownBy w1 (rowBlock (.slice (some ⟨w.heap.size, 0, none⟩) 0 0)) → w.grownBy w1 none := fun w1 o g => (World.grownBy_alloc w o none).trans (by simpa [rowBlock] using g)
    have fi2 : ∀ (B : Option Addr) (n1 c2 : Nat) (o : Obj), (rowBlock (.slice B n1 c2) = rowBlock (.slice (some ⟨w.heap.size, 0, none⟩) 0 0) ∨ ∃ b, rowBlock (.slice B n1 c2) = some b ∧ (w.alloc o).heap.size ≤ b) → ∀ b, rowBlock (.slice B n1 c2) = some b → w.heap.size ≤ b := by
      intro B n1 c2 o h b hb
      rcases h with h | ⟨b2, hb2, hle⟩
      · rw [h] at hb; simp [rowBlock] at hb
      · rw [hb] at hb2; cases hb2; simp at hle; omega
    have RdA := Lib.hid rdA
    have FIN := Lib.hid fin
    have FI2 := Lib.hid fi2
    clear hr hA hnx rdA fin fi2 HR
    go_enter Tryz.func55, Tryz.ntmps55
    go_wp2_with (at_builtin; refine wpList_append_row (by rfl) _ _ _ (by rfl) 26 1 _ 8 Tryz.underlying57 infoU64 rfl (by omega) (by omega) (.slice (some ⟨w.heap.size, 0, none⟩) 0 0) [] (by rfl) (some ad) n c _ (by rfl) (row_nil _ _ _ _) (RdA.out _) (ints_one _ _) hbytes ?_; intro B1 n1 c2 w1 hr1 hg1 ha1)
    go_ret
    exact ⟨B1, n1, c2, rfl, hr1.out, FIN.out _ _ hg1.out, FI2.out _ _ _ _ ha1.out⟩
end Go.Proofs.YtmnebeikafigjaaGreatDoor
/- step's machine: stuck, pops, frame, has. -/
set_option linter.unusedVariables false
namespace Go.Proofs.YtmnebeikafigjaaGreatDoor
open Go.RowKit Go.Sep Go.St
variable {w : World} {S : Nat → Prop} {L : Key → Option Ck} {u : Nat} {P : Ptrs} {M : Mo} {s : Ms}
theorem Md.drewN (h : Md w S L u P M s) (n : Nat) : Md (w.drewN n) S L u P M s := h.recfg (h.sep.drewN n) ⟨⟨Nat.le_refl _, rfl, rfl⟩, fun _ _ => rfl⟩ (fun _ h => h) h.cfg (fun _ _ => rfl)
theorem Md.drew (h : Md w S L u P M s) : Md w.drew S L u P M s := h.drewN 1
theorem Md.alloc (h : Md w S L u P M s) (o : Obj) : Md (w.alloc o) S L u P M s :=
  h.recfg (h.sep.alloc o) ⟨⟨by simp, rfl, rfl⟩, fun b hb => heap_alloc_old w o (h.sep.lt b hb)⟩ (fun _ h => h) h.cfg (fun _ _ => rfl)
theorem To.of {w0 : World} {S0 : Nat → Prop} {L0 : Key → Option Ck} (h : To w S L u P M w0 s) : ∃ S' L', Md w0 S' L' u P M s ∧ Keep u L L' ∧ Ro S w w0 ∧ ∀ b, S b → S' b := h
/-- What is fresh, and only read from here on. -/
theorem Md.fresh {w1 : World} {B : Option Addr} {n c : Nat} {l : List Int} {e : Nat} {k : IntKind} (h : Md w S L u P M s) (hr : Row w1 e 1 (.slice B n c) (ints k l)) (hg : w.grownBy w1 none) (hf : ∀ b, rowBlock (.slice B n c) = some b → w.heap.size ≤ b) :
    ∃ S', Md w1 S' L u P M s ∧ Ro S w w1 ∧ (∀ b, S b → S' b) ∧ RdL w1 S' 1 (num1 k) (.slice B n c) l := by
  have hlt : ∀ b, b < w.heap.size → w1.heap[b]? = w.heap[b]? := fun b hb => hg.block b hb (by simp)
  have hro : Ro S w w1 := ⟨⟨hg.size, hg.os, hg.output⟩, fun b hb => hlt b (h.sep.lt b hb)⟩
  have s1 := h.sep.still hg.size hlt
  have s2 : Sep w1 (fun b => S b ∨ rowBlock (.slice B n c) = some b) L := s1.more (fun k' c' b e1 e2 hb => by
      rcases hb with hb | hb
      · exact h.sep.ro k' c' b e1 e2 hb
      · have h1 := hf b hb
        have h2 := Ck.lt (h.sep.holds k' c' e1) e2
        omega) (fun b hb => by
      rcases hb with hb | hb
      · exact s1.lt b hb
      · exact hr.lt hb)
  refine ⟨_, h.recfg s2 hro (fun _ h => .inl h) h.cfg (fun _ _ => rfl), hro, fun _ h => .inl h, ?_⟩
  obtain ⟨A, n', c', hv, h1, hA, h2, h3, h4⟩ := hr
  cases hv
  rw [ints_len, Nat.mul_one] at h1
  subst h1
  refine ⟨B, c, rfl, h2, Nat.le_trans h2 h3, fun hp => ?_, hA⟩
  obtain ⟨g, cur, rfl, hg1, hc1, ht⟩ := h4 (by omega)
  refine ⟨g, 0, rfl, .inr (by simp [rowBlock]; omega), fun k' x hx => ⟨[.int k x], rfl, rfl, fun j v hv => ?_⟩⟩
  have hj : j = 0 := by
    cases j with
    | zero => rfl
    | succ j => simp at hv
  subst hj
  simp at hv
  subst hv
  have := ints_get k l k' x hx
  rw [← ht, List.getElem?_take] at this
  split at this
  · simp [World.cell?, hg1]; simpa using this
  · cases this
theorem stuck_no (mp : Value) (w : World) : Calls Tryz.prog 39 #[mp, .bool false] w fun e w' => e = .returned (.bool false) ∧ w = w' := by
  go_enter Tryz.func39, Tryz.ntmps39
  go_wp2
  go_ret
  exact ⟨rfl, rfl⟩
theorem stuck_yes (h : Md w S L u P M s) : Calls Tryz.prog 39 #[.pointer (some ⟨P.mB, 0, none⟩), .bool true] w fun e w' => e = .returned (.bool true) ∧ To w S L u P M w' { s with c := endsC 17 } := by
  have H := Lib.hid h
  clear h
  go_enter Tryz.func39, Tryz.ntmps39
  go_wp2_with fail
  refine (ends_c H.out 17).mono ?_
  rintro e w' ⟨rfl, ht⟩
  have HT := Lib.hid ht
  clear ht
  go_wp2
  go_ret
  exact ⟨rfl, HT.out⟩
/-- The stack is cut: the same row, shorter. -/
theorem stack_cut {w : World} {fv vv : Value} {A : Option Addr} {N c : Nat} (k : Nat) (h : Md w S L u P M s) (hC : L (.cfg u) = some (.cl P.cB P.co [fv, .slice A N c, .bool s.c.ov, .int .i64 s.c.er, vv])) (hF : FrsAt L u fv s.c.frs)
    (hS : L (.st u) = some (.rw 26 1 (.slice A N c) (ints .u64 s.c.st))) (hV : L (.va u) = some (.rw 26 1 vv (ints .u64 s.c.va))) (hk : k ≤ N) :
    ToS w S L u P M (w.setCell ⟨P.cB, P.co + 1, none⟩ (.slice A k c)) { s with c := { s.c with st := s.c.st.take k } } := by
  have hr := h.sep.holds _ _ hS
  have hr2 : Row w 26 1 (.slice A k c) (ints .u64 (s.c.st.take k)) := by
    obtain ⟨A', n', c', hv, h1, hA, h2, h3, h4⟩ := hr
    cases hv
    rw [ints_len, Nat.mul_one] at h1
    refine ⟨A, k, c, rfl, by rw [ints_len, List.length_take]; omega, hA, by omega, h3, fun h0 => ?_⟩
    obtain ⟨g, cur, rfl, hg1, hc1, ht⟩ := h4 h0
    refine ⟨g, cur, rfl, hg1, hc1, ?_⟩
    rw [Nat.mul_one] at ht ⊢
    have := congrArg (List.take k) ht
    rw [List.take_take, Nat.min_eq_left hk] at this
    rw [this]
    simp only [ints, List.map_take]
  exact stack_put h hC hF hS hV hr2 ⟨rfl, rfl, rfl, Nat.le_refl _, fun _ _ _ => rfl⟩ (.inl (by cases A <;> rfl))
set_option maxHeartbeats 1000000 in
theorem pops_no (h : Md w S L u P M s) (n : Int) (hn : n < 0 ∨ (s.c.st.length : Int) < n) (hn2 : -4611686018427387904 < n ∧ n < 4611686018427387904) (hb : s.c.st.length ≤ 1000000000) :
    Calls Tryz.prog 77 #[.pointer (some ⟨P.mB, 0, none⟩), .int .i64 n] w fun e w' => e = .returned (.tuple #[.slice none 0 0, .bool false]) ∧ To w S L u P M w' { s with c := endsC 17 } := by
  obtain ⟨fv, sv, vv, hC, hF, hS, hV⟩ := h.cfg
  obtain ⟨A, N, c, rfl, hNc, hc, hl, hrd⟩ := Row.rd (h.sep.holds _ _ hS)
  rw [ints_len, Nat.mul_one] at hl
  have m0 := h.sep.cell0 h.mach 0 _ rfl
  have c1 := h.sep.cell hC 1 _ rfl
  have hi1 : IntKind.i64.wrap ((N : Int) - n) = (N : Int) - n := IntWalk.i64_in _ (by omega)
  have HE := Lib.hid (ends_c h 17)
  rcases Int.lt_or_le n 0 with h0 | h0
  · have d1 : decide (n < 0) = true := decide_eq_true h0
    clear h hC hF hS hV hrd hc hNc hl hb hn hn2 h0
    go_enter Tryz.func77, Tryz.ntmps77
    go_wp2_with fail
    refine HE.out.mono ?_
    rintro e w' ⟨rfl, ht⟩
    have HT := Lib.hid ht
    clear ht
    go_wp2
    go_ret2
    exact ⟨rfl, HT.out⟩
  · have d1 : decide (n < 0) = false := decide_eq_false (by omega)
    have d2 : decide ((N : Int) - n < 0) = true := decide_eq_true (by omega)
    clear h hC hF hS hV hrd hc hNc hl hb hn hn2 h0
    go_enter Tryz.func77, Tryz.ntmps77
    go_wp2_with fail
    refine HE.out.mono ?_
    rintro e w' ⟨rfl, ht⟩
    have HT := Lib.hid ht
    clear ht
    go_wp2
    go_ret2
    exact ⟨rfl, HT.out⟩
def Popped (w : World) (S : Nat → Prop) (L : Key → Option Ck) (u : Nat) (P : Ptrs) (M : Mo) (s : Ms) (l : List Int) (e : Ending) (w' : World) : Prop :=
  ∃ B n c, e = .returned (.tuple #[.slice B n c, .bool true]) ∧ ∃ S' L', Md w' S' L' u P M s ∧ Keep u L L' ∧ Ro S w w' ∧ (∀ b, S b → S' b) ∧ RdL w' S' 1 (num1 .u64) (.slice B n c) l ∧ SameF u L L'
set_option maxHeartbeats 1000000 in
theorem pops_yes (h : Md w S L u P M s) (n : Int) (k nn : Nat) (hn : n = nn) (hk : s.c.st.length = k + nn) (hb : s.c.st.length ≤ 1000000000) :
    Calls Tryz.prog 77 #[.pointer (some ⟨P.mB, 0, none⟩), .int .i64 n] w (Popped w S L u P M { s with c := { s.c with st := s.c.st.take k } } (s.c.st.drop k)) := by
  subst hn
  obtain ⟨fv, sv, vv, hC, hF, hS, hV⟩ := h.cfg
  obtain ⟨A, N, c, rfl, hNc, hc, hl, hrd⟩ := Row.rd (h.sep.holds _ _ hS)
  rw [ints_len, Nat.mul_one] at hl
  have hA : A = none → c = 0 := by
    obtain ⟨A', n', c', hv, h1, hA, _⟩ := h.sep.holds _ _ hS
    cases hv
    exact hA
  have m0 := h.sep.cell0 h.mach 0 _ rfl
  have c1 := h.sep.cell hC 1 _ rfl
  have hi1 : IntKind.i64.wrap ((N : Int) - (nn : Int)) = (k : Int) := by rw [IntWalk.i64_in _ (by omega)]; omega
  have hk0 : (0 : Int) ≤ (k : Int) := Int.natCast_nonneg _
  have hkn : k ≤ N := by omega
  obtain ⟨i0, hi, _, hz1, _⟩ := info_parts infoU64
  obtain ⟨B, hsl, hBn, hBr⟩ := slice_from (P := Tryz.prog) (t := 57) Tryz.underlying57 hi hz1 A N c k hkn
  have hst := slice_to (P := Tryz.prog) (t := 57) Tryz.underlying57 hi A N c k hkn hNc
  have hrd2 := hBr w _ hNc hrd
  have CLN := Lib.hid (clone_c w B (N - k) (c - k) (s.c.st.drop k) (fun hb => by have := hA (hBn hb); omega) (by omega) (by simpa [ints] using hrd2) (by rw [List.length_drop]; omega))
  have H := Lib.hid h
  have HC := Lib.hid (And.intro hC (And.intro hF (And.intro hS hV)))
  have HL := Lib.hid (And.intro hl hk)
  clear h hC hF hS hV hrd hrd2 hBn hBr hA hl hk hi hz1 hb hc
  go_enter Tryz.func77, Tryz.ntmps77
  go_wp2_with fail
  refine CLN.out.mono ?_
  rintro e w1 ⟨B1, n1, c1', rfl, hr1, hg1, hf1⟩
  obtain ⟨S1, h1, ro1, hS1, rd1⟩ := H.out.fresh hr1 hg1 hf1
  have hd1 := h1.drew
  have m0 := h1.sep.cell0 h1.mach 0 _ rfl
  have c1 := h1.sep.cell HC.out.1 1 _ rfl
  have z1 := h1.sep.frozen HC.out.1 (P.co + 1)
  obtain ⟨S2, L2, h2, k2, ro2, hS2, sf2⟩ := stack_cut k hd1 HC.out.1 HC.out.2.1 HC.out.2.2.1 HC.out.2.2.2 hkn
  have FIN := Lib.hid (⟨S2, L2, h2, k2, ro1.trans ro2 hS1, fun b hb => hS2 b (hS1 b hb), rd1.mono ro2 hS2 (fun _ _ h => h), sf2⟩ : ∃ S' L', Md _ S' L' u P M { s with c := { s.c with st := s.c.st.take k } } ∧ Keep u L L' ∧ Ro S w _ ∧ (∀ b, S b → S' b) ∧ RdL _ S' 1 (num1 .u64) (.slice B1 n1 c1') (s.c.st.drop k) ∧ SameF u L L')
  clear h1 hd1 h2 k2 ro1 ro2 hS1 hS2 rd1 sf2 hr1 hg1 hf1 H CLN HC HL
  go_wp2_with fail
  refine wp_region_z (fun w' => w'.cell? ⟨P.mB, 0, none⟩ = some (.pointer (some ⟨P.cB, P.co, none⟩)) ∧ w'.cell? ⟨P.cB, P.co + 1, none⟩ = some (.slice A N c)) (fun j => j == 13 || j == 14 || j == 15) (by kernel_rfl) ?_ (fun hHeld => ?_)
  · exact ⟨m0, c1⟩
  (refine wpZ_take (i := 0) (oi := ⟨some 36, .move (.tmp 0), 103, _, _, none⟩) (v := ?_) rfl (by kernel_rfl) (fun _ _ _ h => h) (by assumption) (Or.inl ⟨by rfl, ?_⟩) ?_; rotate_left 1; · ((intro w hSw; (try dsimp only at hSw); go_split_ands; go_simp) <;> (try with_reducible rfl)))
  try simp only [Act.put, List.setIfInBounds_toArray, List.set_cons_zero, List.set_cons_succ]
  (refine wpZ_take (i := 1) (oi := ⟨some 37, .nilCheck (.tmp 36), 0, _, _, none⟩) (v := ?_) rfl (by kernel_rfl) (fun _ _ _ h => h) (by assumption) (Or.inl ⟨by rfl, ?_⟩) ?_; rotate_left 1; · ((intro w hSw; (try dsimp only at hSw); go_split_ands; go_simp) <;> (try with_reducible rfl)))
  try simp only [Act.put, List.setIfInBounds_toArray, List.set_cons_zero, List.set_cons_succ]
  (refine wpZ_take (i := 2) (oi := ⟨some 38, .fieldAddr 105 (.tmp 37) 0, 0, _, _, none⟩) (v := ?_) rfl (by kernel_rfl) (fun _ _ _ h => h) (by assumption) (Or.inl ⟨by rfl, ?_⟩) ?_; rotate_left 1; · ((intro w hSw; (try dsimp only at hSw); go_split_ands; go_simp) <;> (try with_reducible rfl)))
  try simp only [Act.put, List.setIfInBounds_toArray, List.set_cons_zero, List.set_cons_succ]
  (refine wpZ_take (i := 3) (oi := ⟨some 39, .load 62 (.tmp 38), 62, _, _, none⟩) (v := ?_) rfl (by kernel_rfl) (fun _ _ _ h => h) (by assumption) (Or.inl ⟨by rfl, ?_⟩) ?_; rotate_left 1; · ((intro w hSw; (try dsimp only at hSw); go_split_ands; go_simp) <;> (try with_reducible rfl)))
  try simp only [Act.put, List.setIfInBounds_toArray, List.set_cons_zero, List.set_cons_succ]
  (refine wpZ_take (i := 4) (oi := ⟨some 40, .move (.tmp 0), 103, _, _, none⟩) (v := ?_) rfl (by kernel_rfl) (fun _ _ _ h => h) (by assumption) (Or.inl ⟨by rfl, ?_⟩) ?_; rotate_left 1; · ((intro w hSw; (try dsimp only at hSw); go_split_ands; go_simp) <;> (try with_reducible rfl)))
  try simp only [Act.put, List.setIfInBounds_toArray, List.set_cons_zero, List.set_cons_succ]
  (refine wpZ_take (i := 5) (oi := ⟨some 41, .nilCheck (.tmp 40), 0, _, _, none⟩) (v := ?_) rfl (by kernel_rfl) (fun _ _ _ h => h) (by assumption) (Or.inl ⟨by rfl, ?_⟩) ?_; rotate_left 1; · ((intro w hSw; (try dsimp only at hSw); go_split_ands; go_simp) <;> (try with_reducible rfl)))
  try simp only [Act.put, List.setIfInBounds_toArray, List.set_cons_zero, List.set_cons_succ]
  (refine wpZ_take (i := 6) (oi := ⟨some 42, .fieldAddr 105 (.tmp 41) 0, 0, _, _, none⟩) (v := ?_) rfl (by kernel_rfl) (fun _ _ _ h => h) (by assumption) (Or.inl ⟨by rfl, ?_⟩) ?_; rotate_left 1; · ((intro w hSw; (try dsimp only at hSw); go_split_ands; go_simp) <;> (try with_reducible rfl)))
  try simp only [Act.put, List.setIfInBounds_toArray, List.set_cons_zero, List.set_cons_succ]
  (refine wpZ_take (i := 7) (oi := ⟨some 43, .load 62 (.tmp 42), 62, _, _, none⟩) (v := ?_) rfl (by kernel_rfl) (fun _ _ _ h => h) (by assumption) (Or.inl ⟨by rfl, ?_⟩) ?_; rotate_left 1; · ((intro w hSw; (try dsimp only at hSw); go_split_ands; go_simp) <;> (try with_reducible rfl)))
  try simp only [Act.put, List.setIfInBounds_toArray, List.set_cons_zero, List.set_cons_succ]
  (refine wpZ_take (i := 8) (oi := ⟨some 44, .nilCheck (.tmp 43), 0, _, _, none⟩) (v := ?_) rfl (by kernel_rfl) (fun _ _ _ h => h) (by assumption) (Or.inl ⟨by rfl, ?_⟩) ?_; rotate_left 1; · ((intro w hSw; (try dsimp only at hSw); go_split_ands; go_simp) <;> (try with_reducible rfl)))
  try simp only [Act.put, List.setIfInBounds_toArray, List.set_cons_zero, List.set_cons_succ]
  (refine wpZ_take (i := 9) (oi := ⟨some 45, .fieldAddr 59 (.tmp 44) 1, 0, _, _, none⟩) (v := ?_) rfl (by kernel_rfl) (fun _ _ _ h => h) (by assumption) (Or.inl ⟨by rfl, ?_⟩) ?_; rotate_left 1; · ((intro w hSw; (try dsimp only at hSw); go_split_ands; go_simp) <;> (try with_reducible rfl)))
  try simp only [Act.put, List.setIfInBounds_toArray, List.set_cons_zero, List.set_cons_succ]
  (refine wpZ_take (i := 10) (oi := ⟨some 46, .load 57 (.tmp 45), 57, _, _, none⟩) (v := ?_) rfl (by kernel_rfl) (fun _ _ _ h => h) (by assumption) (Or.inl ⟨by rfl, ?_⟩) ?_; rotate_left 1; · ((intro w hSw; (try dsimp only at hSw); go_split_ands; go_simp) <;> (try with_reducible rfl)))
  try simp only [Act.put, List.setIfInBounds_toArray, List.set_cons_zero, List.set_cons_succ]
  (refine wpZ_take (i := 11) (oi := ⟨some 47, .move (.tmp 6), 3, _, _, none⟩) (v := ?_) rfl (by kernel_rfl) (fun _ _ _ h => h) (by assumption) (Or.inl ⟨by rfl, ?_⟩) ?_; rotate_left 1; · ((intro w hSw; (try dsimp only at hSw); go_split_ands; go_simp) <;> (try with_reducible rfl)))
  try simp only [Act.put, List.setIfInBounds_toArray, List.set_cons_zero, List.set_cons_succ]
  (refine wpZ_take (i := 12) (oi := ⟨some 48, .slice 57 (.tmp 46) none (some (.tmp 47)) none, 57, _, _, none⟩) (v := ?_) rfl (by kernel_rfl) (fun _ _ _ h => h) (by assumption) (Or.inl ⟨by rfl, ?_⟩) ?_; rotate_left 1; · ((intro w hSw; (try dsimp only at hSw); go_split_ands; go_simp) <;> (try with_reducible rfl)))
  try simp only [Act.put, List.setIfInBounds_toArray, List.set_cons_zero, List.set_cons_succ]
  refine wpZ_one (i := 13) (oi := ⟨some 49, .nilCheck (.tmp 39), 0, _, _, none⟩) rfl (by kernel_rfl) (fun K hK => ?_)
  go_simp
  refine hK.out _ _ (fun h => by simp at h) (fun _ => ?_)
  clear hK K
  try simp only [Act.put, List.setIfInBounds_toArray, List.set_cons_zero, List.set_cons_succ]
  refine wpZ_one (i := 14) (oi := ⟨some 50, .fieldAddr 59 (.tmp 49) 1, 0, _, _, none⟩) rfl (by kernel_rfl) (fun K hK => ?_)
  go_simp
  refine hK.out _ _ (fun h => by simp at h) (fun _ => ?_)
  clear hK K
  try simp only [Act.put, List.setIfInBounds_toArray, List.set_cons_zero, List.set_cons_succ]
  refine wpZ_one (i := 15) (oi := ⟨none, .store 57 (.tmp 50) (.tmp 48), 0, _, _, none⟩) rfl (by kernel_rfl) (fun K hK => ?_)
  go_simp
  refine hK.out _ _ (fun h => by simp at h) (fun _ => ?_)
  clear hK K
  try simp only [Act.put, List.setIfInBounds_toArray, List.set_cons_zero, List.set_cons_succ]
  refine wpZ_done (by kernel_rfl) ?_ _
  go_wp2
  go_ret2
  exact ⟨B1, n1, c1', rfl, FIN.out⟩
end Go.Proofs.YtmnebeikafigjaaGreatDoor
/- step's machine: frames: the last one, its cells. -/
set_option linter.unusedVariables false
namespace Go.Proofs.YtmnebeikafigjaaGreatDoor
open Go.RowKit Go.Sep Go.St
section
variable {α β : Type}
theorem flat_get (g : α → List β) (sz : Nat) (hg : ∀ x, (g x).length = sz) : ∀ (l : List α) (k j : Nat), j < sz → (l.flatMap g)[k * sz + j]? = (l[k]?).bind fun x => (g x)[j]?
  | [], k, j, hj => by simp
  | x :: r, 0, j, hj => by
    rw [List.flatMap_cons, Nat.zero_mul, Nat.zero_add, List.getElem?_append_left (by rw [hg]; exact hj)]
    rfl
  | x :: r, k + 1, j, hj => by
    rw [List.flatMap_cons, List.getElem?_append_right (by rw [hg, Nat.succ_mul]; omega), hg, show (k + 1) * sz + j - sz = k * sz + j by rw [Nat.succ_mul]; omega, flat_get g sz hg r k j hj]
    rfl
theorem flat_len (g : α → List β) (sz : Nat) (hg : ∀ x, (g x).length = sz) : ∀ l : List α, (l.flatMap g).length = l.length * sz
  | [] => by simp
  | x :: r => by rw [List.flatMap_cons, List.length_append, hg, flat_len g sz hg r, List.length_cons, Nat.succ_mul, Nat.add_comm]
theorem flat_set (g : α → List β) (sz : Nat) (hg : ∀ x, (g x).length = sz) : ∀ (l : List α) (k j : Nat) (x y : α) (v : β), j < sz → l[k]? = some x → g y = (g x).set j v → (l.flatMap g).set (k * sz + j) v = (l.set k y).flatMap g
  | [], k, j, x, y, v, hj, h, e => by simp at h
  | z :: r, 0, j, x, y, v, hj, h, e => by
    simp at h
    subst h
    rw [List.flatMap_cons, Nat.zero_mul, Nat.zero_add, List.set_append_left _ _ (by rw [hg]; exact hj), List.set_cons_zero, List.flatMap_cons, e]
  | z :: r, k + 1, j, x, y, v, hj, h, e => by
    rw [List.flatMap_cons, List.set_append_right _ _ (by rw [hg, Nat.succ_mul]; omega), hg, show (k + 1) * sz + j - sz = k * sz + j by rw [Nat.succ_mul]; omega, flat_set g sz hg r k j x y v hj (by simpa using h) e, List.set_cons_succ, List.flatMap_cons]
theorem flat_take (g : α → List β) (sz : Nat) (hg : ∀ x, (g x).length = sz) (l : List α) (k : Nat) : (l.flatMap g).take (k * sz) = (l.take k).flatMap g := by
  induction l generalizing k with
  | nil => simp
  | cons x r ih =>
    cases k with
    | zero => simp
    | succ k =>
      rw [List.flatMap_cons, List.take_succ_cons, List.flatMap_cons, List.take_append, hg, List.take_of_length_le (by rw [hg, Nat.succ_mul]; omega), show (k + 1) * sz - sz = k * sz by rw [Nat.succ_mul]; omega, ih]
end
variable {w : World} {S : Nat → Prop} {L : Key → Option Ck} {u : Nat} {P : Ptrs} {M : Mo} {s : Ms}
theorem Row.cell {w : World} {e sz : Nat} {b n c : Nat} {xs : List Value} (h : Row w e sz (.slice (some ⟨b, 0, none⟩) n c) xs) (hc : 0 < c) (j : Nat) (v : Value) (hv : xs[j]? = some v) : w.cell? ⟨b, j, none⟩ = some v ∧ w.frozen? ⟨b, j, none⟩ = false := by
  obtain ⟨A, n', c', e1, h1, hA, h2, h3, h4⟩ := h
  cases e1
  obtain ⟨g, cur, e2, hg, hcs, ht⟩ := h4 hc
  cases e2
  refine ⟨?_, by simp [World.frozen?, hg]⟩
  rw [← ht, List.getElem?_take] at hv
  split at hv
  · simp [World.cell?, hg]; simpa using hv
  · cases hv
def frG (p : Fr × Value × Value) : List Value := frC p.1 p.2.1 p.2.2
theorem frG_len (p : Fr × Value × Value) : (frG p).length = 6 := rfl
/-- The frames as they lie: the last one is number k. -/
structure Frm (w : World) (L : Key → Option Ck) (u : Nat) (P : Ptrs) (s : Ms) (k : Nat) (f : Fr) (fB fc : Nat) (sv vv : Value) (raws : List (Value × Value)) (lv bv : Value) : Prop where
  cfg : L (.cfg u) = some (.cl P.cB P.co [.slice (some ⟨fB, 0, none⟩) (k + 1) fc, sv, .bool s.c.ov, .int .i64 s.c.er, vv])
  st : L (.st u) = some (.rw 26 1 sv (ints .u64 s.c.st))
  va : L (.va u) = some (.rw 26 1 vv (ints .u64 s.c.va))
  len : raws.length = s.c.frs.length
  fr : L (.fr u) = some (.rw 113 6 (.slice (some ⟨fB, 0, none⟩) (k + 1) fc) ((s.c.frs.zip raws).flatMap frG))
  all : ∀ (k : Nat) f r, s.c.frs[k]? = some f → raws[k]? = some r → L (.loc u k) = some (.rw 26 1 r.1 (ints .u64 f.loc)) ∧ L (.lab u k) = some (.rw 146 3 r.2 (labC f.lab))
  top : s.c.frs[k]? = some f
  raw : raws[k]? = some (lv, bv)
  loc : L (.loc u k) = some (.rw 26 1 lv (ints .u64 f.loc))
  lab : L (.lab u k) = some (.rw 146 3 bv (labC f.lab))
  le : k + 1 ≤ fc
  cell : ∀ j v, (frC f lv bv)[j]? = some v → w.cell? ⟨fB, k * 6 + j, none⟩ = some v
  frozen : ∀ j, w.frozen? ⟨fB, j, none⟩ = false
  m0 : w.cell? ⟨P.mB, 0, none⟩ = some (.pointer (some ⟨P.cB, P.co, none⟩))
  m1 : w.cell? ⟨P.mB, 1, none⟩ = some (.pointer (some ⟨P.iB, 0, none⟩))
  c0 : w.cell? ⟨P.cB, P.co, none⟩ = some (.slice (some ⟨fB, 0, none⟩) (k + 1) fc)
  c1 : w.cell? ⟨P.cB, P.co + 1, none⟩ = some sv
theorem Md.frm (h : Md w S L u P M s) (k : Nat) (f : Fr) (hk : s.c.frs.length = k + 1) (hf : s.c.frs[k]? = some f) : ∃ fB fc sv vv raws lv bv, Frm w L u P s k f fB fc sv vv raws lv bv := by
  obtain ⟨fv, sv, vv, hC, ⟨raws, hl, hR, hA⟩, hS, hV⟩ := h.cfg
  have hrow := h.sep.holds _ _ hR
  have hflat : ((s.c.frs.zip raws).flatMap fun p => frC p.1 p.2.1 p.2.2) = (s.c.frs.zip raws).flatMap frG := rfl
  rw [hflat] at hR
  obtain ⟨A, n, c, rfl, h1, h2, h3, h4, h5⟩ := hrow
  rw [hflat, flat_len frG 6 frG_len, List.length_zip, hl, Nat.min_self] at h1
  obtain rfl : n = k + 1 := by omega
  obtain ⟨g, cur, rfl, hg, hcs, ht⟩ := h5 (by omega)
  have hr : k < raws.length := by omega
  have hraw : raws[k]? = some raws[k] := List.getElem?_eq_getElem hr
  obtain ⟨hloc, hlab⟩ := hA k f raws[k] hf hraw
  have hrow : Row w 113 6 (.slice (some ⟨g, 0, none⟩) (k + 1) c) ((s.c.frs.zip raws).flatMap frG) := h.sep.holds _ _ hR
  refine ⟨g, c, sv, vv, raws, raws[k].1, raws[k].2, hC, hS, hV, hl, hR, hA, hf, hraw, hloc, hlab, by omega, fun j v hj => ?_, fun j => ?_, h.sep.cell0 h.mach 0 _ rfl, h.sep.cell0 h.mach 1 _ rfl, h.sep.cellA hC, h.sep.cell hC 1 _ rfl⟩
  · have hj6 : j < 6 := (List.getElem?_eq_some_iff.1 hj).1
    refine (Row.cell hrow (by omega) (k * 6 + j) v ?_).1
    rw [flat_get frG 6 frG_len _ k j hj6, (List.getElem?_zip_eq_some (z := (f, raws[k]))).2 ⟨hf, hraw⟩]
    exact hj
  · simp [World.frozen?, hg]
theorem frame_c (h : Md w S L u P M s) {k fB fc : Nat} {f : Fr} {sv vv lv bv : Value} {raws : List (Value × Value)} (hf : Frm w L u P s k f fB fc sv vv raws lv bv) (hb : k ≤ 1000000) :
    Calls Tryz.prog 40 #[.pointer (some ⟨P.mB, 0, none⟩)] w fun e w' => e = .returned (.pointer (some ⟨fB, k * 6, none⟩)) ∧ ∃ n, w' = w.drewN n := by
  have m0 := hf.m0
  have c0 := hf.c0
  have hi1 : IntKind.i64.wrap (((k + 1 : Nat) : Int) - 1) = (k : Int) := by rw [IntWalk.i64_in _ (by omega)]; omega
  have hi2 : (0 : Int) ≤ (k : Int) := by omega
  have hi3 : (k : Int) < ((k + 1 : Nat) : Int) := by omega
  generalize hN : k + 1 = N at c0 hi1 hi3
  have HN := Lib.hid hN
  clear h hf hb hN
  go_enter Tryz.func40, Tryz.ntmps40
  go_wp2_with fail
  go_quiet (fail)
  go_wp2
  go_ret
  exact ⟨rfl, _, rfl⟩
end Go.Proofs.YtmnebeikafigjaaGreatDoor
