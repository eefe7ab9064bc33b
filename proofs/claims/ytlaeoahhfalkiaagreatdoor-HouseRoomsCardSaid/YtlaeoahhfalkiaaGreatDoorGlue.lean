/- VM: words for a walk by hand around its runs. -/
import Derived.Test.YtlaeoahhfalkiaaGreatDoorVmSum
import Derived.WalkKit
import Derived.DataShut
import Derived.LoopTactic
import Derived.Lib.Hide
import Derived.Deep.DeepCutAuto
import Derived.Deep.QuietTactic
import Derived.Deep.RegionLaw
import Derived.RegionTactic
set_option linter.unusedVariables false
namespace Go.Vm
open Go.RowKit
section
variable {env : Nat → Int} {M : Mp}
theorem VR.ptr0 {b : Nat} {x : Value} (h : VR env M (.p (some (b, 0))) x) : ∃ pl, M b = some pl ∧ x = .pointer (some ⟨pl.blk, pl.off, none⟩) := h.ptr
theorem VR.slw0 {b l c : Nat} {x : Value} (h : VR env M (.sl (some (b, 0)) l c) x) (hc : 0 < c) : ∃ (pl : Pl) (c' : Nat), M b = some pl ∧ c ≤ c' ∧ pl.off + c' * pl.es ≤ pl.sz ∧ l ≤ c ∧ x = .slice (some ⟨pl.blk, pl.off, none⟩) l c' := h.slw hc
theorem VR.p0 (b : Nat) (pl : Pl) (h : M b = some pl) : VR env M (.p (some (b, 0))) (.pointer (some ⟨pl.blk, pl.off, none⟩)) := .p b 0 pl h
end
noncomputable section
def cellO (i : Nat) : Option Ob → Option V
  | some (.cells _ _ _ true cs) => cs.get i
  | _ => none
def cellT (h : Tr Ob) (b i : Nat) : Option V := cellO i (h.get b)
def lenO : Option Ob → Nat
  | some (.cells _ _ _ true cs) => cs.len
  | _ => 0
def lenT (h : Tr Ob) (b : Nat) : Nat := lenO (h.get b)
def killO (h : Tr Ob) (b : Nat) : Option Ob → Option (Tr Ob)
  | some (.cells el es ex true cs) => some (h.set b (.cells el es ex false cs))
  | _ => none
def killT (h : Tr Ob) (b : Nat) : Option (Tr Ob) := killO h b (h.get b)
end
section
variable {env : Nat → Int} {n0 : Old} {M : Mp} {h : Tr Ob} {w : World}
theorem Rel.cellK (r : Rel env n0 M h w) {b : Nat} {pl : Pl} (hM : M b = some pl) (i : Nat) (v : V) (hc : cellT h b i = some v) : ∃ x, w.cell? ⟨pl.blk, pl.off + i, none⟩ = some x ∧ VR env M v x := by
  unfold cellT at hc
  cases hg : h.get b with
  | none => rw [hg] at hc; cases hc
  | some ob =>
    rw [hg] at hc
    cases ob with
    | map es => cases hc
    | cells el es ex live cs =>
      cases live with
      | false => cases hc
      | true => exact r.cellAt hg hM i v hc
theorem Rel.freeK (r : Rel env n0 M h w) {b : Nat} {pl : Pl} (hRO : RO ≤ b) (hM : M b = some pl) (i : Nat) (hi : Nat.ble (i + 1) (lenT h b) = true) : w.frozen? ⟨pl.blk, pl.off + i, none⟩ = false := by
  have hi := Nat.le_of_ble_eq_true hi
  unfold lenT at hi
  cases hg : h.get b with
  | none => rw [hg] at hi; simp [lenO] at hi
  | some ob =>
    rw [hg] at hi
    cases ob with
    | map es => simp [lenO] at hi
    | cells el es ex live cs =>
      cases live with
      | false => simp [lenO] at hi
      | true =>
        have hi : i + 1 ≤ cs.len := hi
        rw [RL.len_eq] at hi
        exact r.free hg hRO hM i hi
theorem Rel.esK (r : Rel env n0 M h w) {b : Nat} {pl : Pl} (hM : M b = some pl) {el : TypeId} {es : Nat} {ex : Bool} {cs : RL V} (hg : h.get b = some (.cells el es ex true cs)) : pl.es = es := by
  obtain ⟨pl', c, el', fz, h1, h2, h3⟩ := r.live hg
  rw [hM] at h1; cases h1; exact h2
theorem Rel.wildK (r : Rel env n0 M h w) {b : Nat} {pl : Pl} (hRO : RO ≤ b) (hM : M b = some pl) {h' : Tr Ob} (hk : killT h b = some h') (a : Addr) (ha : a.block = pl.blk) (x : Value) : Rel env n0 M h' (w.setCell a x) := by
  unfold killT at hk
  cases hg : h.get b with
  | none => rw [hg] at hk; cases hk
  | some ob =>
    rw [hg] at hk
    cases ob with
    | map es => cases hk
    | cells el es ex live cs =>
      cases live with
      | false => cases hk
      | true =>
        cases hk
        refine r.wild hg hM hRO (fun k hk => ?_) (by simp [World.setCell])
        simp only [World.setCell, Array.getElem?_modify]
        rw [if_neg (fun e => hk (by rw [← e, ha]))]
theorem Rel.lowK (r : Rel env n0 M h w) {b : Nat} {pl : Pl} (hRO : RO ≤ b) (hM : M b = some pl) (hi : hasB (h.get b) = true) : n0.n ≤ pl.blk := by
  cases hg : h.get b with
  | none => rw [hg] at hi; cases hi
  | some ob =>
    obtain ⟨pl', h1, _, h3, _⟩ := r.row b ob hg
    rw [hM] at h1; cases h1
    exact (h3 hRO).1
end
/-- The same, to be read alone: all that is there stays. -/
noncomputable def chkR (T h : Tr Ob) (l : List (Nat × Nat)) (s : Nat → IE) : Bool := allT (fun b ob => Nat.blt b RO && mO (sg T l) s ob (h.get (look l b))) T 0 1
theorem Rel.toldR {env : Nat → Int} {n0 : Old} {M : Mp} {h : Tr Ob} {w : World} (r : Rel env n0 M h w) {T : Tr Ob} {l : List (Nat × Nat)} {s : Nat → IE} (hc : chkR T h l s = true) : Rel (envS env s) (oldOf w) (mpS (sg T l) M) T w := by
  have hsg : ∀ b ob, T.get b = some ob → sg T l b = some (look l b) := fun b ob e => by unfold sg; rw [e]; rfl
  have hlt : ∀ b ob, T.get b = some ob → b < RO ∧ mO (sg T l) s ob (h.get (look l b)) = true := by
    intro b ob e
    have := allT_get hc e
    simp only [Bool.and_eq_true] at this
    exact ⟨by simpa [Nat.blt_eq] using this.1, this.2⟩
  refine ⟨fun b hb => ?_, fun b ob hb => ?_, fun b b' ob ob' pl pl' g1 g2 l1 l2 r1 r2 m1 m2 hbk => ?_, Nat.le_refl _, fun _ _ => rfl, fun _ h => h.elim, fun _ _ _ _ _ _ _ h => h⟩
  · show (sg T l b).bind M = none
    unfold sg; rw [hb]; rfl
  · obtain ⟨hb1, hm⟩ := hlt b ob hb
    obtain ⟨ob', e'⟩ := mO_some _ _ hm
    rw [e'] at hm
    obtain ⟨pl, q1, q2, q3, q4, q5⟩ := r.row _ _ e'
    refine ⟨pl, ?_, mO_ok _ _ hm q2, fun h => by omega, fun _ => q5, q5⟩
    show (sg T l b).bind M = _
    rw [hsg b ob hb]; exact q1
  · have := (hlt b ob g1).1; omega
theorem get_one {α : Type} (v : α) (n k : Nat) (h : k < n) : RL.get [(v, n)] k = some v := by
  rw [RL.get_eq, RL.toList_cons, List.getElem?_append_left (by simpa using h)]
  simp [h]
/-- Of a world that another world's write of one block has made. -/
theorem setCell_other (w : World) (a : Addr) (x : Value) (k : Nat) (h : k ≠ a.block) : (w.setCell a x).heap[k]? = w.heap[k]? := by
  simp only [World.setCell, Array.getElem?_modify]
  rw [if_neg (fun e => h e.symm)]
theorem setCell_size (w : World) (a : Addr) (x : Value) : (w.setCell a x).heap.size = w.heap.size := by simp [World.setCell]
theorem setCell_bel {B : Nat} (w : World) (a : Addr) (x : Value) (h : B ≤ a.block) : Below B w (w.setCell a x) :=
  ⟨rfl, rfl, rfl, by rw [setCell_size]; exact Nat.le_refl _, fun k hk => setCell_other w a x k (by omega)⟩
end Go.Vm
