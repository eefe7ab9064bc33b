/- VM: each touch of its heap, and the model's: cells read, cells laid, new rows, rows let go, maps. -/
import Derived.Test.YtpbnbgjclalpeaaDoorVmRel
import Derived.Laws.Sem
set_option linter.unusedVariables false
set_option linter.unusedSimpArgs false
namespace Go.Vm
open Go.RowKit
variable {env : Nat → Int} {n0 : Nat} {M : Mp} {h : Tr Ob} {w : World} {P : Program}

theorem cell_of (pl : Pl) (i : Nat) {c : Array Value} {el : TypeId} {fz : Nat × Nat} (hb : w.heap[pl.blk]? = some (.cells c el fz)) :
    w.cell? ⟨pl.blk, i, none⟩ = c[i]? := by
  simp [World.cell?, hb]
theorem frozen_of (pl : Pl) (i : Nat) {c : Array Value} {el : TypeId} {fz : Nat × Nat} (hb : w.heap[pl.blk]? = some (.cells c el fz))
    (hf : ∀ i, i < c.size → ¬ (fz.1 ≤ i ∧ i < fz.2)) (hi : i < c.size) : w.frozen? ⟨pl.blk, i, none⟩ = false := by
  obtain ⟨lo, hi'⟩ := fz
  have := hf i hi
  simp only [World.frozen?, hb]
  simp at this ⊢
  exact this

/-- What a row that lives tells of the model's block. -/
structure Row (env : Nat → Int) (M : Mp) (w : World) (pl : Pl) (ex : Bool) (cs : RL V) (c : Array Value) (el' : TypeId) (fz : Nat × Nat) : Prop where
  heap : w.heap[pl.blk]? = some (.cells c el' fz)
  size : c.size = pl.sz
  len : pl.off + cs.toList.length ≤ pl.sz
  cell : ∀ i v, cs.toList[i]? = some v → ∃ x, c[pl.off + i]? = some x ∧ VR env M v x
  free : pl.ro = false → ∀ i, i < c.size → ¬ (fz.1 ≤ i ∧ i < fz.2)
  full : ex = true → pl.off + cs.toList.length = pl.sz
theorem Rel.live {b : Nat} {el : TypeId} {es : Nat} {ex : Bool} {cs : RL V} (r : Rel env n0 M h w) (e : h.get b = some (.cells el es ex true cs)) :
    ∃ pl c el' fz, M b = some pl ∧ pl.es = es ∧ Row env M w pl ex cs c el' fz ∧ (RO ≤ b → n0 ≤ pl.blk ∧ pl.ro = false) ∧ pl.blk < w.heap.size := by
  obtain ⟨pl, h1, h2, h3, _, h5⟩ := r.row b _ e
  cases h2 with
  | live el ex cs c el' fz a1 a2 a3 a4 a5 a6 => exact ⟨pl, c, el', fz, h1, rfl, ⟨a1, a2, a3, a4, a5, a6⟩, h3, h5⟩

/-! ### reading -/
theorem loadFrom_run (a : Addr) (xs : List Value) : ∀ (i : Nat) (acc : Array Value), (∀ j x, xs[j]? = some x → w.cell? (a.add (i + j)) = some x) →
    (loadCellsFrom a i xs.length acc).run P w = .ok (acc ++ xs.toArray) w := by
  induction xs with
  | nil => intro i acc _; simp [loadCellsFrom]
  | cons x xs ih =>
    intro i acc hx
    have h0 := hx 0 x rfl
    simp only [Nat.add_zero] at h0
    simp only [List.length_cons, loadCellsFrom, Sem.run_bind, run_load, h0, Result.andThen_ok]
    rw [ih (i + 1) (acc.push x) (fun j y e => by have := hx (j + 1) y e; rw [show i + 1 + j = i + (j + 1) by omega]; exact this)]
    congr 1
    simp
theorem loadCells_run (a : Addr) (xs : List Value) (hx : ∀ j x, xs[j]? = some x → w.cell? (a.add j) = some x) :
    (loadCells a xs.length).run P w = .ok xs.toArray w := by
  unfold loadCells
  rw [loadFrom_run a xs 0 #[] (fun j x e => by rw [Nat.zero_add]; exact hx j x e)]
  simp
theorem add_eq (blk off n : Nat) : (Addr.mk blk off none).add n = ⟨blk, off + n, none⟩ := by
  unfold Addr.add
  split
  · subst_vars; rfl
  · rfl
/-- So many cells of a row that lives. -/
theorem Row.loads {pl : Pl} {ex : Bool} {cs : RL V} {c : Array Value} {el' : TypeId} {fz : Nat × Nat} (r : Row env M w pl ex cs c el' fz) (lo n : Nat) (hn : lo + n ≤ cs.toList.length) :
    ∃ xs : List Value, xs.length = n ∧ VRs env M ((cs.toList.drop lo).take n) xs ∧ (loadCells ⟨pl.blk, pl.off + lo, none⟩ n).run P w = .ok xs.toArray w ∧
      (∀ j x, xs[j]? = some x → c[pl.off + lo + j]? = some x) := by
  have hsz := r.size
  have hlen := r.len
  have key : ∀ j, j < n → ∃ x, c[pl.off + lo + j]? = some x ∧ ∃ v, cs.toList[lo + j]? = some v ∧ VR env M v x := by
    intro j hj
    have hv : cs.toList[lo + j]? = some (cs.toList[lo + j]'(by omega)) := List.getElem?_eq_getElem (by omega)
    obtain ⟨x, h1, h2⟩ := r.cell _ _ hv
    exact ⟨x, by rw [show pl.off + lo + j = pl.off + (lo + j) by omega]; exact h1, _, hv, h2⟩
  let xs : List Value := (List.range n).map fun j => c.getD (pl.off + lo + j) undef
  have hl : xs.length = n := by simp [xs]
  have hg : ∀ j x, xs[j]? = some x → c[pl.off + lo + j]? = some x := by
    intro j x e
    have hj : j < n := by rw [← hl]; exact (List.getElem?_eq_some_iff.1 e).1
    obtain ⟨y, hy, _⟩ := key j hj
    simp [xs, hj] at e
    rw [hy]
    have : c.getD (pl.off + lo + j) undef = y := by simp [Array.getD_eq_getD_getElem?, hy]
    rw [Array.getD_eq_getD_getElem?, hy] at this
    simp [hy] at e
    rw [e]
  refine ⟨xs, hl, ?_, ?_, hg⟩
  · refine VRs.of_get (by simp [hl]; omega) ?_
    intro i v x h1 h2
    have hi : i < n := by rw [← hl]; exact (List.getElem?_eq_some_iff.1 h2).1
    obtain ⟨y, hy, u, hu, hr⟩ := key i hi
    have hx := hg i x h2
    rw [hy] at hx
    cases hx
    rw [List.getElem?_take, if_pos hi, List.getElem?_drop, hu] at h1
    cases h1
    exact hr
  · rw [← hl]
    refine loadCells_run _ xs ?_
    intro j x e
    rw [add_eq, cell_of pl _ r.heap]
    exact hg j x e

/-! ### laying cells -/
theorem setCell_heap {c : Array Value} {el' : TypeId} {fz : Nat × Nat} (blk i : Nat) (x : Value) (hb : w.heap[blk]? = some (.cells c el' fz)) (k : Nat) :
    (w.setCell ⟨blk, i, none⟩ x).heap[k]? = if k = blk then some (.cells (c.setIfInBounds i x) el' fz) else w.heap[k]? := by
  simp only [World.setCell, Array.getElem?_modify]
  by_cases e : blk = k
  · subst e; rw [if_pos rfl, if_pos rfl, hb]; obtain ⟨a, b⟩ := fz; rfl
  · rw [if_neg e, if_neg (fun e' => e e'.symm)]
/-- Cells laid over a block's, from a place on. -/
def lay (c : Array Value) : Nat → List Value → Array Value
  | _, [] => c
  | i, x :: xs => lay (c.setIfInBounds i x) (i + 1) xs
theorem lay_size : ∀ (xs : List Value) (c : Array Value) (i : Nat), (lay c i xs).size = c.size
  | [], _, _ => rfl
  | x :: xs, c, i => by rw [lay, lay_size xs]; simp
theorem lay_get : ∀ (xs : List Value) (c : Array Value) (i k : Nat), i + xs.length ≤ c.size → (lay c i xs)[k]? = if i ≤ k ∧ k < i + xs.length then xs[k - i]? else c[k]?
  | [], c, i, k, _ => by rw [lay, if_neg (fun e => by have := e.2; simp only [List.length_nil] at this; omega)]
  | x :: xs, c, i, k, h => by
    have h' : i + (xs.length + 1) ≤ c.size := h
    rw [lay, lay_get xs _ _ _ (by simp; omega), List.length_cons]
    by_cases e : k = i
    · subst e
      rw [if_neg (by omega), if_pos (by omega)]
      simp [Array.getElem?_setIfInBounds]
      omega
    · by_cases h2 : i + 1 ≤ k ∧ k < i + 1 + xs.length
      · rw [if_pos h2, if_pos (by omega), show k - i = (k - (i + 1)) + 1 by omega]; rfl
      · rw [if_neg h2, if_neg (by omega)]
        rw [Array.getElem?_setIfInBounds, if_neg (by omega)]
def oneCell (x : Value) : Prop := match x with
  | .agg _ => False
  | .tuple _ => False
  | _ => True
theorem store_run {c : Array Value} {el' : TypeId} {fz : Nat × Nat} (blk i : Nat) (x : Value) (hb : w.heap[blk]? = some (.cells c el' fz)) (hi : i < c.size)
    (hf : ∀ i, i < c.size → ¬ (fz.1 ≤ i ∧ i < fz.2)) (h1 : oneCell x) : (store ⟨blk, i, none⟩ x).run P w = .ok () (w.setCell ⟨blk, i, none⟩ x) := by
  have hc : w.cell? ⟨blk, i, none⟩ = some c[i] := by rw [cell_of ⟨blk, 0, 0, 0, false⟩ i hb]; simp [hi]
  have hz := frozen_of (w := w) ⟨blk, 0, 0, 0, false⟩ i hb hf hi
  rw [run_store _ _ _ _ _ (by cases x <;> simp_all [oneCell, Value.oneCell']), hc]
  simp only [hz]
  rfl
theorem setCell_below (blk i : Nat) (x : Value) (hn : n0 ≤ blk) : Below n0 w (w.setCell ⟨blk, i, none⟩ x) :=
  (Below.refl n0 w).setCell (p := ⟨blk, i, none⟩) hn x
theorem storeCells_run (blk : Nat) (el' : TypeId) (fz : Nat × Nat) (off : Nat) : ∀ (xs : List Value) (i : Nat) (w : World) (c : Array Value),
    w.heap[blk]? = some (.cells c el' fz) → off + i + xs.length ≤ c.size → (∀ i, i < c.size → ¬ (fz.1 ≤ i ∧ i < fz.2)) → (∀ x ∈ xs, oneCell x) →
    ∃ w', (storeCells ⟨blk, off, none⟩ xs i).run P w = .ok () w' ∧ w'.heap[blk]? = some (.cells (lay c (off + i) xs) el' fz) ∧ w'.heap.size = w.heap.size ∧
      (∀ k, k ≠ blk → w'.heap[k]? = w.heap[k]?) ∧ (∀ n, n ≤ w.heap.size → n ≤ blk → Below n w w')
  | [], i, w, c, hb, _, _, _ => ⟨w, rfl, hb, rfl, fun _ _ => rfl, fun n _ _ => Below.refl n w⟩
  | x :: xs, i, w, c, hb, hl, hf, h1 => by
    simp only [List.length_cons] at hl
    have hst := store_run (P := P) blk (off + i) x hb (by omega) hf (h1 x (by simp))
    have hb' : (w.setCell ⟨blk, off + i, none⟩ x).heap[blk]? = some (.cells (c.setIfInBounds (off + i) x) el' fz) := by rw [setCell_heap _ _ _ hb, if_pos rfl]
    have hsz : (w.setCell ⟨blk, off + i, none⟩ x).heap.size = w.heap.size := by simp [World.setCell]
    obtain ⟨w', r1, r2, r3, r4, r5⟩ := storeCells_run blk el' fz off xs (i + 1) _ _ hb' (by simp; omega) (by simpa using hf) (fun y hy => h1 y (by simp [hy]))
    refine ⟨w', ?_, ?_, by rw [r3, hsz], ?_, ?_⟩
    · simp only [storeCells, Sem.run_bind, add_eq, hst, Result.andThen_ok, r1]
    · rw [r2, lay]; rfl
    · intro k hk; rw [r4 k hk, setCell_heap _ _ _ hb, if_neg hk]
    · intro n hn hbn; exact (setCell_below _ _ _ hbn).trans (r5 n (by rw [hsz]; exact hn) hbn)

/-- A row that lives, with new cells laid in the model's block: what the relation wants. -/
theorem Rel.write (r : Rel env n0 M h w) {b : Nat} {el : TypeId} {es : Nat} {ex : Bool} {cs cs' : RL V} (e : h.get b = some (.cells el es ex true cs)) {pl : Pl} (hM : M b = some pl) (hRO : RO ≤ b)
    {w' : World} {c' : Array Value} {el' : TypeId} {fz : Nat × Nat}
    (hb : w'.heap[pl.blk]? = some (.cells c' el' fz)) (hk : ∀ k, k ≠ pl.blk → w'.heap[k]? = w.heap[k]?) (hsz : w'.heap.size = w.heap.size)
    (h1 : c'.size = pl.sz) (h2 : cs'.toList.length = cs.toList.length) (h3 : ∀ i v, cs'.toList[i]? = some v → ∃ x, c'[pl.off + i]? = some x ∧ VR env M v x)
    (h4 : ∀ i, i < c'.size → ¬ (fz.1 ≤ i ∧ i < fz.2)) : Rel env n0 M (h.set b (.cells el es ex true cs')) w' := by
  have hlive := r.live e
  obtain ⟨pl0, c0, e0, fz0, hM0, hes, row0, hn0, hlt⟩ := hlive
  rw [hM] at hM0; cases hM0
  have hlen := row0.len
  have hfull := row0.full
  refine ⟨?_, ?_, ?_, by rw [hsz]; exact r.size⟩
  · intro k hk'
    rw [Tr.get_set] at hk'
    split at hk'
    · cases hk'
    · exact r.dom k hk'
  · intro k ob hob
    rw [Tr.get_set] at hob
    by_cases ek : k = b
    · subst ek
      rw [if_pos rfl] at hob
      cases hob
      refine ⟨pl, hM, ?_, hn0, fun hlt' => by omega, by rw [hsz]; exact hlt⟩
      subst hes
      exact .live el ex cs' c' el' fz hb h1 (by rw [h2]; exact hlen) h3 (fun _ => h4) (fun hx => by rw [h2]; exact hfull hx)
    · rw [if_neg ek] at hob
      obtain ⟨plk, m1, m2, m3, m4, m5⟩ := r.row k ob hob
      refine ⟨plk, m1, m2.mono M.le_refl (fun ha => ?_), m3, m4, by rw [hsz]; exact m5⟩
      refine hk _ fun hne => ek ?_
      by_cases hro : RO ≤ k
      · exact r.inj k b ob _ plk pl hob e ha rfl hro hRO m1 hM hne
      · have := m4 (by omega); have := (hn0 hRO).1; omega
  · intro a a' oa oa' pa pa' g1 g2 l1 l2 ro1 ro2 m1 m2 hbk
    rw [Tr.get_set] at g1 g2
    have get : ∀ a oa, (if a = b then some (Ob.cells el es ex true cs') else h.get a) = some oa → aliveO oa = true → ∃ oo, h.get a = some oo ∧ aliveO oo = true := by
      intro a oa g l
      by_cases ea : a = b
      · subst ea; exact ⟨_, e, rfl⟩
      · rw [if_neg ea] at g; exact ⟨oa, g, l⟩
    obtain ⟨o1, g1', l1'⟩ := get a oa g1 l1
    obtain ⟨o2, g2', l2'⟩ := get a' oa' g2 l2
    exact r.inj a a' o1 o2 pa pa' g1' g2' l1' l2' ro1 ro2 m1 m2 hbk

/-! ### new rows -/
def Mp.add (M : Mp) (n : Nat) (pl : Pl) : Mp := fun b => if b = n then some pl else M b
theorem Mp.le_add {n : Nat} {pl : Pl} (hn : M n = none) : M.le (M.add n pl) := by
  intro b p e
  unfold Mp.add
  rw [if_neg (by intro hb; subst hb; rw [hn] at e; cases e)]
  exact e
theorem push_get (w : World) (o : Obj) (k : Nat) : (w.heap.push o)[k]? = if k = w.heap.size then some o else w.heap[k]? := by
  rw [Array.getElem?_push]
/-- A new object behind all others. -/
theorem Rel.push (r : Rel env n0 M h w) {n : Nat} (hn : h.get n = none) (hRO : RO ≤ n) {ob : Ob} {o : Obj} {pl : Pl} (hpl : pl.blk = w.heap.size) (hpr : pl.ro = false)
    (ho : ∀ w' : World, w'.heap[pl.blk]? = some o → OR env (M.add n pl) pl w' ob) :
    Rel env n0 (M.add n pl) (h.set n ob) { w with heap := w.heap.push o } := by
  have hle : M.le (M.add n pl) := Mp.le_add (r.dom n hn)
  have hs := r.size
  refine ⟨?_, ?_, ?_, by simp; omega⟩
  · intro k hk
    rw [Tr.get_set] at hk
    by_cases ek : k = n
    · rw [if_pos ek] at hk; cases hk
    · rw [if_neg ek] at hk; unfold Mp.add; rw [if_neg ek]; exact r.dom k hk
  · intro k ob' hob
    rw [Tr.get_set] at hob
    by_cases ek : k = n
    · subst ek
      rw [if_pos rfl] at hob
      cases hob
      refine ⟨pl, by unfold Mp.add; rw [if_pos rfl], ho _ ?_, fun _ => ⟨by omega, hpr⟩, fun hlt => by omega, by simp; omega⟩
      show (w.heap.push o)[pl.blk]? = _
      rw [push_get, if_pos hpl]
    · rw [if_neg ek] at hob
      obtain ⟨plk, m1, m2, m3, m4, m5⟩ := r.row k ob' hob
      refine ⟨plk, hle _ _ m1, m2.mono hle (fun _ => ?_), m3, m4, by simp; omega⟩
      show (w.heap.push o)[plk.blk]? = _
      rw [push_get, if_neg (by omega)]
  · intro a a' oa oa' pa pa' g1 g2 l1 l2 ro1 ro2 m1 m2 hbk
    rw [Tr.get_set] at g1 g2
    unfold Mp.add at m1 m2
    by_cases ea : a = n
    · by_cases ea' : a' = n
      · omega
      · rw [if_pos ea] at m1; rw [if_neg ea'] at m2 g2
        cases m1
        obtain ⟨plk, k1, _, _, _, k5⟩ := r.row a' oa' g2
        rw [m2] at k1; cases k1
        omega
    · by_cases ea' : a' = n
      · rw [if_neg ea] at m1 g1; rw [if_pos ea'] at m2
        cases m2
        obtain ⟨plk, k1, _, _, _, k5⟩ := r.row a oa g1
        rw [m1] at k1; cases k1
        omega
      · rw [if_neg ea] at m1 g1; rw [if_neg ea'] at m2 g2
        exact r.inj a a' oa oa' pa pa' g1 g2 l1 l2 ro1 ro2 m1 m2 hbk
theorem push_below (hs : n0 ≤ w.heap.size) (o : Obj) : Below n0 w { w with heap := w.heap.push o } := (Below.refl n0 w).alloc hs o
/-- A row of known cells, new. -/
theorem OR.fresh {M : Mp} {el : TypeId} {ex : Bool} {cs : RL V} {xs : List Value} {rest : Array Value} {e : TypeId} {pl : Pl} {w : World} (h : VRs env M cs.toList xs)
    (hoff : pl.off = 0) (hsz : pl.sz = xs.length + rest.size) (hex : ex = true → rest.size = 0)
    (hb : w.heap[pl.blk]? = some (.cells (xs.toArray ++ rest) e (0, 0))) : OR env M pl w (.cells el pl.es ex true cs) := by
  have hl := h.length
  refine .live el ex cs _ e (0, 0) hb (by simp [hsz]) (by omega) ?_ (by intro _ i _; simp) (fun hx => by have := hex hx; omega)
  intro i v hv
  obtain ⟨x, h1, h2⟩ := h.get i v hv
  refine ⟨x, ?_, h2⟩
  have hi : i < xs.length := (List.getElem?_eq_some_iff.1 h1).1
  rw [hoff, Nat.zero_add, Array.getElem?_append_left (by simpa using hi)]
  simpa using h1
/-- A draw of the tape turns nothing. -/
theorem Rel.same (r : Rel env n0 M h w) {w' : World} (hw : w'.heap = w.heap) : Rel env n0 M h w' :=
  ⟨r.dom, fun b ob e => let ⟨pl, a, c, d, f, g⟩ := r.row b ob e; ⟨pl, a, c.mono M.le_refl (fun _ => by rw [hw]), d, f, by rw [hw]; exact g⟩, r.inj, by rw [hw]; exact r.size⟩

/-! ### rows let go -/
theorem Rel.kill (r : Rel env n0 M h w) {b : Nat} {el : TypeId} {es : Nat} {ex : Bool} {cs : RL V} (e : h.get b = some (.cells el es ex true cs)) :
    Rel env n0 M (h.set b (.cells el es ex false cs)) w := by
  refine ⟨?_, ?_, ?_, r.size⟩
  · intro k hk
    rw [Tr.get_set] at hk
    split at hk
    · cases hk
    · exact r.dom k hk
  · intro k ob hob
    rw [Tr.get_set] at hob
    by_cases ek : k = b
    · subst ek
      rw [if_pos rfl] at hob
      cases hob
      obtain ⟨pl, m1, m2, m3, m4, m5⟩ := r.row k _ e
      exact ⟨pl, m1, .dead el es ex cs, m3, m4, m5⟩
    · rw [if_neg ek] at hob; exact r.row k ob hob
  · intro a a' oa oa' pa pa' g1 g2 l1 l2 ro1 ro2 m1 m2 hbk
    rw [Tr.get_set] at g1 g2
    have get : ∀ a oa, (if a = b then some (Ob.cells el es ex false cs) else h.get a) = some oa → aliveO oa = true → h.get a = some oa := by
      intro a oa g l
      by_cases ea : a = b
      · rw [if_pos ea] at g; cases g; cases l
      · rw [if_neg ea] at g; exact g
    exact r.inj a a' oa oa' pa pa' (get a oa g1 l1) (get a' oa' g2 l2) l1 l2 ro1 ro2 m1 m2 hbk
/-- A row that takes a dead row's block over. -/
theorem Rel.take (r : Rel env n0 M h w) {n : Nat} (hn : h.get n = none) (hRO : RO ≤ n) {b : Nat} {pl : Pl} (hM : M b = some pl) (hb : RO ≤ b) {el : TypeId} {es : Nat} {ex : Bool} {cs : RL V}
    (e : h.get b = some (.cells el es ex false cs)) (hone : ∀ k ob p, h.get k = some ob → aliveO ob = true → RO ≤ k → M k = some p → p.blk ≠ pl.blk)
    {w' : World} (hk : ∀ k, k ≠ pl.blk → w'.heap[k]? = w.heap[k]?) (hsz : w'.heap.size = w.heap.size) {ob : Ob} {pl' : Pl} (hpl : pl'.blk = pl.blk) (hpr : pl'.ro = false) (ho : OR env (M.add n pl') pl' w' ob) :
    Rel env n0 (M.add n pl') (h.set n ob) w' := by
  have hle : M.le (M.add n pl') := Mp.le_add (r.dom n hn)
  obtain ⟨pl0, b1, _, b3, _, b5⟩ := r.row b _ e
  rw [hM] at b1; cases b1
  have hbn := (b3 hb).1
  refine ⟨?_, ?_, ?_, by rw [hsz]; exact r.size⟩
  · intro k hk
    rw [Tr.get_set] at hk
    by_cases ek : k = n
    · rw [if_pos ek] at hk; cases hk
    · rw [if_neg ek] at hk; unfold Mp.add; rw [if_neg ek]; exact r.dom k hk
  · intro k ob' hob
    rw [Tr.get_set] at hob
    by_cases ek : k = n
    · subst ek
      rw [if_pos rfl] at hob
      cases hob
      exact ⟨pl', by unfold Mp.add; rw [if_pos rfl], ho, fun _ => ⟨by omega, hpr⟩, fun hlt => by omega, by rw [hsz]; omega⟩
    · rw [if_neg ek] at hob
      obtain ⟨plk, m1, m2, m3, m4, m5⟩ := r.row k ob' hob
      refine ⟨plk, hle _ _ m1, m2.mono hle (fun ha => hk _ ?_), m3, m4, by rw [hsz]; exact m5⟩
      by_cases hro : RO ≤ k
      · exact hone k ob' plk hob ha hro m1
      · have := m4 (by omega); omega
  · intro a a' oa oa' pa pa' g1 g2 l1 l2 ro1 ro2 m1 m2 hbk
    rw [Tr.get_set] at g1 g2
    unfold Mp.add at m1 m2
    by_cases ea : a = n
    · by_cases ea' : a' = n
      · omega
      · rw [if_pos ea] at m1; rw [if_neg ea'] at m2 g2
        cases m1
        exact absurd (hbk.symm.trans hpl) (hone a' oa' pa' g2 l2 ro2 m2)
    · by_cases ea' : a' = n
      · rw [if_neg ea] at m1 g1; rw [if_pos ea'] at m2
        cases m2
        exact absurd (hbk.trans hpl) (hone a oa pa g1 l1 ro1 m1)
      · rw [if_neg ea] at m1 g1; rw [if_neg ea'] at m2 g2
        exact r.inj a a' oa oa' pa pa' g1 g2 l1 l2 ro1 ro2 m1 m2 hbk

/-! ### maps -/
theorem Rel.setMap (r : Rel env n0 M h w) {b : Nat} {es es' : List (V × V)} (e : h.get b = some (.map es)) (hRO : RO ≤ b) {pl : Pl} (hM : M b = some pl) {ms : Array MapEntry} {clock : Nat}
    (h1 : VRs env M (es'.map (·.1)) (ms.toList.map (·.key))) (h2 : VRs env M (es'.map (·.2)) (ms.toList.map (·.val))) :
    Rel env n0 M (h.set b (.map es')) { w with heap := w.heap.setIfInBounds pl.blk (.map ms clock) } := by
  obtain ⟨pl0, b1, _, b3, _, b5⟩ := r.row b _ e
  rw [hM] at b1; cases b1
  have hbn := b3 hRO
  refine ⟨?_, ?_, ?_, by simpa using r.size⟩
  · intro k hk'
    rw [Tr.get_set] at hk'
    split at hk'
    · cases hk'
    · exact r.dom k hk'
  · intro k ob hob
    rw [Tr.get_set] at hob
    by_cases ek : k = b
    · subst ek
      rw [if_pos rfl] at hob
      cases hob
      refine ⟨pl, hM, .map es' ms clock ?_ h1 h2, b3, fun hlt' => by omega, by simpa using b5⟩
      simp [b5]
    · rw [if_neg ek] at hob
      obtain ⟨plk, m1, m2, m3, m4, m5⟩ := r.row k ob hob
      refine ⟨plk, m1, m2.mono M.le_refl (fun ha => ?_), m3, m4, by simpa using m5⟩
      have hne : pl.blk ≠ plk.blk := fun hne => ek (by
        by_cases hro : RO ≤ k
        · exact r.inj k b ob _ plk pl hob e ha rfl hro hRO m1 hM hne.symm
        · have := m4 (by omega); omega)
      simp [hne]
  · intro a a' oa oa' pa pa' g1 g2 l1 l2 ro1 ro2 m1 m2 hbk
    rw [Tr.get_set] at g1 g2
    have get : ∀ a oa, (if a = b then some (Ob.map es') else h.get a) = some oa → aliveO oa = true → ∃ oo, h.get a = some oo ∧ aliveO oo = true := by
      intro a oa g l
      by_cases ea : a = b
      · subst ea; exact ⟨_, e, rfl⟩
      · rw [if_neg ea] at g; exact ⟨oa, g, l⟩
    obtain ⟨o1, g1', l1'⟩ := get a oa g1 l1
    obtain ⟨o2, g2', l2'⟩ := get a' oa' g2 l2
    exact r.inj a a' o1 o2 pa pa' g1' g2' l1' l2' ro1 ro2 m1 m2 hbk
theorem setMap_below (blk : Nat) (o : Obj) (hn : n0 ≤ blk) : Below n0 w { w with heap := w.heap.setIfInBounds blk o } :=
  ⟨rfl, rfl, rfl, by simp, fun k hk => by simp [Array.getElem?_setIfInBounds]; intro e; omega⟩
end Go.Vm
