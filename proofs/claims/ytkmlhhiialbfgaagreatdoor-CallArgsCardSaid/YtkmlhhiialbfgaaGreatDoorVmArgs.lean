/- VM: slices of numbers that came in: a row that is read alone. -/
import Derived.Test.YtkmlhhiialbfgaaGreatDoorVmTree
import GoSem.ClaimJoined
set_option linter.unusedVariables false
set_option linter.unusedSimpArgs false
namespace Go.Vm
open Go.RowKit
def M1 (b : Nat) (pl : Pl) : Mp := fun k => if k = b then some pl else none
theorem M1_self (b : Nat) (pl : Pl) : M1 b pl b = some pl := by unfold M1; rw [if_pos rfl]
theorem rel_one {env : Nat → Int} {w : World} {b : Nat} (hb : b < RO) {pl : Pl} {ob : Ob} (ho : OR env (M1 b pl) pl w ob) (hlt : pl.blk < w.heap.size) : Rel env w.heap.size (M1 b pl) (Tr.set .nil b ob) w := by
  refine ⟨fun k hk => ?_, fun k o hk => ?_, fun k k' o o' p p' _ _ _ _ r1 _ m1 => ?_, Nat.le_refl _⟩
  · rw [Tr.get_set] at hk
    unfold M1
    by_cases e : k = b
    · rw [if_pos e] at hk; cases hk
    · rw [if_neg e]
  · rw [Tr.get_set] at hk
    by_cases e : k = b
    · rw [if_pos e] at hk
      cases hk
      subst e
      exact ⟨pl, M1_self _ _, ho, fun h => by omega, fun _ => hlt, hlt⟩
    · rw [if_neg e] at hk; cases hk
  · unfold M1 at m1
    by_cases e : k = b
    · omega
    · rw [if_neg e] at m1; cases m1
/-- A row of a slice of numbers that came in. -/
theorem ints_in {k : IntKind} {W : World} {x : Addr} {cap : Nat} {zs : List Int} (hz : zs.length = cap) (hcell : ∀ i, i < zs.length → W.cell? (x.add i) = some (.int k (zs.getD i 0))) (hpos : 0 < cap)
    {L base : Nat} (hL : L ≤ cap) {env : Nat → Int} (henv : ∀ j, j < L → env (base + j) = zs.getD j 0) {b : Nat} (hb : b < RO) (e : TypeId) {vs : List V} (hvs : vs = (List.range L).map fun j => V.i k (.v (base + j))) :
    ∃ pl, Rel env W.heap.size (M1 b pl) (Tr.set .nil b (.cells e 1 false true (RL.ofList vs))) W ∧ VR env (M1 b pl) (.sl (some (b, 0)) L L) (.slice (some x) L cap) := by
  have h0 := hcell 0 (by omega)
  obtain ⟨c, el', fz, hh, hsp⟩ : ∃ c el' fz, W.heap[x.block]? = some (.cells c el' fz) ∧ x.spot = none := by
    have h0 : W.cell? (x.add 0) = _ := h0
    have hx0 : x.add 0 = x := by unfold Addr.add; simp
    rw [hx0] at h0
    unfold World.cell? at h0
    cases hw : W.heap[x.block]? with
    | none => rw [hw] at h0; cases h0
    | some o =>
      cases o with
      | cells c el fz =>
        rw [hw] at h0
        cases hs : x.spot with
        | none => exact ⟨c, el, fz, rfl, rfl⟩
        | some s => rw [hs] at h0; cases h0
      | _ => rw [hw] at h0; cases h0
  have hcl : ∀ i, i < cap → c[x.off + i]? = some (.int k (zs.getD i 0)) := by
    intro i hi
    have h1 := hcell i (by omega)
    obtain ⟨blk, off, spot⟩ := x
    subst hsp
    rw [add_eq] at h1
    unfold World.cell? at h1
    rw [hh] at h1
    exact h1
  have hsz : x.off + cap ≤ c.size := by
    have := (Array.getElem?_eq_some_iff.1 (hcl (cap - 1) (by omega))).1
    omega
  have hlt : x.block < W.heap.size := (Array.getElem?_eq_some_iff.1 hh).1
  have hlen : (RL.ofList vs).toList = vs := RL.toList_ofList vs
  have hvl : vs.length = L := by rw [hvs]; simp
  refine ⟨⟨x.block, x.off, c.size, 1, true⟩, rel_one hb ?_ hlt, ?_⟩
  · refine OR.live (pl := ⟨x.block, x.off, c.size, 1, true⟩) e false (RL.ofList vs) c el' fz hh rfl ?_ ?_ (fun hr => by cases hr) (fun hr => by cases hr)
    · rw [hlen, hvl]; show x.off + L ≤ c.size; omega
    · intro i v hv
      rw [hlen, hvs] at hv
      rw [List.getElem?_map] at hv
      by_cases hi : i < L
      · rw [List.getElem?_range hi] at hv
        cases hv
        refine ⟨_, hcl i (by omega), ?_⟩
        rw [← henv i hi]
        exact VR.i k (.v (base + i))
      · rw [List.getElem?_eq_none (by simpa using hi)] at hv
        cases hv
  · refine VR.sl b 0 L L cap ⟨x.block, x.off, c.size, 1, true⟩ x (M1_self _ _) hL ?_ (.inl ?_) (Nat.le_refl _)
    · show x.off + 0 + cap * 1 ≤ c.size; omega
    · obtain ⟨blk, off, spot⟩ := x
      subst hsp
      rfl
/-- Some row of cells is there. -/
def HasCells (W : World) : Prop := ∃ (g : Nat) (c : Array Value) (el : TypeId) (fz : Nat × Nat), W.heap[g]? = some (Obj.cells c el fz)
/-- A slice that came in, of whatever is in it: its cells are not asked for. -/
theorem any_in {W : World} {x : Addr} {len cap : Nat} (hl : len ≤ cap) (hc : 0 < cap → ∃ c el fz, W.heap[x.block]? = some (.cells c el fz) ∧ x.spot = none ∧ x.off + cap ≤ c.size) (hpos : HasCells W)
    (env : Nat → Int) {b : Nat} (hb : b < RO) (e : TypeId) : ∃ pl, Rel env W.heap.size (M1 b pl) (Tr.set .nil b (.cells e 1 false false [])) W ∧ VR env (M1 b pl) (.sl (some (b, 0)) len len) (.slice (some x) len cap) := by
  by_cases h0 : 0 < cap
  · obtain ⟨c, el, fz, hh, hsp, hsz⟩ := hc h0
    refine ⟨⟨x.block, x.off, c.size, 1, true⟩, rel_one hb (.dead e 1 false []) (Array.getElem?_eq_some_iff.1 hh).1, ?_⟩
    refine VR.sl b 0 len len cap ⟨x.block, x.off, c.size, 1, true⟩ x (M1_self _ _) hl ?_ (.inl ?_) (Nat.le_refl _)
    · show x.off + 0 + cap * 1 ≤ c.size; omega
    · obtain ⟨blk, off, spot⟩ := x
      subst hsp
      rfl
  · obtain ⟨g, _, _, _, hg⟩ := hpos
    refine ⟨⟨0, 0, 0, 1, true⟩, rel_one hb (.dead e 1 false []) (by have := (Array.getElem?_eq_some_iff.1 hg).1; show 0 < W.heap.size; omega), ?_⟩
    exact VR.sl b 0 len len cap ⟨0, 0, 0, 1, true⟩ x (M1_self _ _) hl (by show 0 + 0 + cap * 1 ≤ 0; omega) (.inr (by omega)) (Nat.le_refl _)
/-- A slice that came in, with no room: a row of nothing. -/
theorem none_in {W : World} {x : Addr} {cap : Nat} (hc : cap = 0) (hpos : HasCells W) (env : Nat → Int) {b : Nat} (hb : b < RO) (e : TypeId) :
    ∃ pl, Rel env W.heap.size (M1 b pl) (Tr.set .nil b (.cells e 1 false true (RL.ofList []))) W ∧ VR env (M1 b pl) (.sl (some (b, 0)) 0 0) (.slice (some x) 0 cap) := by
  obtain ⟨g, c, el, fz, hg⟩ := hpos
  refine ⟨⟨g, 0, c.size, 1, true⟩, rel_one hb ?_ (Array.getElem?_eq_some_iff.1 hg).1, ?_⟩
  · refine OR.live (pl := ⟨g, 0, c.size, 1, true⟩) e false (RL.ofList []) c el fz hg rfl ?_ ?_ (fun hr => by cases hr) (fun hr => by cases hr)
    · show 0 + 0 ≤ c.size; omega
    · intro i v hv; cases hv
  · exact VR.sl b 0 0 0 cap ⟨g, 0, c.size, 1, true⟩ x (M1_self _ _) (by omega) (by show 0 + 0 + cap * 1 ≤ c.size; omega) (.inr hc) (Nat.le_refl _)
/-- The same block, out of its cells. -/
theorem block_of {k : IntKind} {W : World} {x : Addr} {cap : Nat} {zs : List Int} (hz : zs.length = cap) (hcell : ∀ i, i < zs.length → W.cell? (x.add i) = some (.int k (zs.getD i 0))) (hpos : 0 < cap) :
    ∃ c el fz, W.heap[x.block]? = some (.cells c el fz) ∧ x.spot = none ∧ x.off + cap ≤ c.size := by
  have h0 := hcell 0 (by omega)
  obtain ⟨c, el', fz, hh, hsp⟩ : ∃ c el' fz, W.heap[x.block]? = some (.cells c el' fz) ∧ x.spot = none := by
    have hx0 : x.add 0 = x := by unfold Addr.add; simp
    rw [hx0] at h0
    unfold World.cell? at h0
    cases hw : W.heap[x.block]? with
    | none => rw [hw] at h0; cases h0
    | some o =>
      cases o with
      | cells c el fz =>
        rw [hw] at h0
        cases hs : x.spot with
        | none => exact ⟨c, el, fz, rfl, rfl⟩
        | some s => rw [hs] at h0; cases h0
      | _ => rw [hw] at h0; cases h0
  refine ⟨c, el', fz, hh, hsp, ?_⟩
  have h1 := hcell (cap - 1) (by omega)
  obtain ⟨blk, off, spot⟩ := x
  subst hsp
  rw [add_eq] at h1
  unfold World.cell? at h1
  rw [hh] at h1
  have := (Array.getElem?_eq_some_iff.1 (show c[off + (cap - 1)]? = some _ from h1)).1
  show off + cap ≤ c.size
  omega
/-- How a slice of numbers comes in. -/
def IsRow (k : IntKind) (w : World) (a : Option Addr) (len cap : Nat) (zs : List Int) : Prop :=
  (a = none ∧ len = 0 ∧ cap = 0 ∧ zs = []) ∨
  ∃ x, a = some x ∧ len ≤ cap ∧ cap ≤ maxLen ∧ zs.length = cap ∧ (∀ i, i < zs.length → w.cell? (x.add i) = some (.int k (zs.getD i 0))) ∧ ∀ n ∈ zs, (Lit.int k n).wf = true
theorem cells_of_var {P : Program} {w : World} {n : String} {cs : Array Value} (h : w.var? P n = some cs) : HasCells w := by
  unfold World.var? at h
  cases hg : P.globalNamed n with
  | none => rw [hg] at h; cases h
  | some g =>
    rw [hg] at h
    have h : (match w.heap[g]? with | some (.cells cs _ _) => some cs | _ => none) = some cs := h
    cases hw : w.heap[g]? with
    | none => rw [hw] at h; cases h
    | some o =>
      cases o with
      | cells c el fz => exact ⟨g, c, el, fz, hw⟩
      | _ => rw [hw] at h; cases h
theorem cells_of_laid {P : Program} {w : World} {x : String × DataW Unit} {l : List (String × DataW Unit)} (h : laidMet P (x :: l) w) : HasCells w := by
  obtain ⟨ps, hl, _⟩ := h
  obtain ⟨g, t, cs, fuel, p, q, _, _, hv, _⟩ := hl
  exact cells_of_var hv
theorem wf_getD {k : IntKind} {zs : List Int} (h : ∀ n ∈ zs, (Lit.int k n).wf = true) {j : Nat} (hj : j < zs.length) : (Lit.int k (zs.getD j 0)).wf = true := by
  rw [List.getD_eq_getElem?_getD, List.getElem?_eq_getElem hj]
  exact h _ (List.getElem_mem hj)
end Go.Vm
