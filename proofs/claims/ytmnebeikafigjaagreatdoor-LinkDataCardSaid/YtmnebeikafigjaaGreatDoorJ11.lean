/- Lemmas of the walk, part 11. -/
import Derived.Test.YtmnebeikafigjaaGreatDoorJ10
import Derived.Laws.BytesArg
/- LinkData's call answers true, in any world, and leaves all that was there. -/
set_option linter.unusedVariables false
set_option linter.unusedSimpArgs false
namespace Go.Vm
/-- How a slice of numbers comes in. -/
def IsRow (k : IntKind) (w : World) (a : Option Addr) (len cap : Nat) (zs : List Int) : Prop :=
  (a = none ∧ len = 0 ∧ cap = 0 ∧ zs = []) ∨
  ∃ x, a = some x ∧ len ≤ cap ∧ cap ≤ maxLen ∧ zs.length = cap ∧ (∀ i, i < zs.length → w.cell? (x.add i) = some (.int k (zs.getD i 0))) ∧ ∀ n ∈ zs, (Lit.int k n).wf = true
end Go.Vm
namespace Go.Proofs.YtmnebeikafigjaaGreatDoor
open Go.RowKit Go.Sep Go.St
theorem row_arg {w : World} {a : Option Addr} {n c : Nat} {zs : List Int} (h : Go.Vm.IsRow .u8 w a n c zs) : ∃ bs : List Int, bs.length = n ∧ RdL w (AllB w) 1 (num1 .u8) (.slice a n c) bs ∧ ∀ x ∈ bs, 0 ≤ x ∧ x < 256 := by
  rcases h with ⟨rfl, rfl, rfl, rfl⟩ | ⟨x, rfl, hl, hm, hz, hc, hw⟩
  · exact ⟨[], rfl, rdl_nil, fun x h => by simp at h⟩
  · refine ⟨zs.take n, by rw [List.length_take]; omega, ?_, fun y hy => ?_⟩
    · refine ⟨some x, c, by rw [List.length_take, hz, Nat.min_eq_left hl], by rw [List.length_take]; omega, by rw [List.length_take]; omega, fun hp => ?_, fun h => nomatch h⟩
      rw [List.length_take] at hp
      have h0 := hc 0 (by omega)
      obtain ⟨b, o, sp⟩ := x
      have hsp : sp = none := by
        cases sp with
        | none => rfl
        | some s =>
          rw [show (Addr.mk b o (some s)).add 0 = ⟨b, o, some s⟩ by unfold Addr.add; simp] at h0
          unfold World.cell? at h0
          cases hh : w.heap[b]? with
          | none => rw [hh] at h0; cases h0
          | some ob => cases ob <;> (rw [hh] at h0; first | cases h0 | (simp at h0))
      subst hsp
      have hadd : ∀ i, (Addr.mk b o none).add i = ⟨b, o + i, none⟩ := fun i => by unfold Addr.add; split <;> simp_all
      have hbl : b < w.heap.size := World.block_lt_of_cell? _ _ (by have := hc 0 (by omega); rw [hadd] at this; exact this)
      refine ⟨b, o, rfl, hbl, fun k y hy => ?_⟩
      have hk : k < n := by have := (List.getElem?_eq_some_iff.1 hy).1; rw [List.length_take] at this; omega
      rw [List.getElem?_take, if_pos hk] at hy
      refine ⟨[.int .u8 y], rfl, rfl, fun j u hu => ?_⟩
      have hj : j = 0 := by have := (List.getElem?_eq_some_iff.1 hu).1; simp at this; omega
      subst hj
      cases hu
      have := hc k (by omega)
      rw [hadd, List.getD_eq_getElem?_getD, hy] at this
      simpa using this
    · have h1 := hw y (List.mem_of_mem_take hy)
      simp [Lit.wf, IntKind.min, IntKind.max, IntKind.signed, IntKind.bits] at h1
      omega
/-- A row of bytes as a string. -/
theorem conv_bytes {w : World} {S : Nat → Prop} {A : Option Addr} {n c : Nat} {bs : List Int} (h : RdL w S 1 (num1 .u8) (.slice A n c) bs) : (convert 34 9 (.slice A n c)).run Tryz.prog w = .ok (.string (strOfNums bs)) w := by
  obtain ⟨A', c', e, h1, h2, h3, h4⟩ := id h
  cases e
  cases A with
  | none =>
    obtain rfl := h4 rfl
    obtain rfl : bs = [] := List.eq_nil_of_length_eq_zero (by omega)
    exact run_convert_bytes_nil w _ 5 Tryz.underlying34 Tryz.underlying5 0 0 _ Tryz.underlying9
  | some a =>
    rcases Nat.eq_zero_or_pos bs.length with h0 | hp
    · obtain rfl : bs = [] := List.eq_nil_of_length_eq_zero h0
      obtain ⟨b, o, s⟩ := a
      simp only [List.length_nil]
      rw [run_convert_bytes_string w _ _ 5 _ 0 c Tryz.underlying34 Tryz.underlying5 Tryz.underlying9]
      simp [Conv.bytesToString, loadCells, loadCellsFrom, strOfNums]
      rfl
    · obtain ⟨b, o, e, hS, hc⟩ := h3 hp
      cases e
      refine run_convert_bytes_arg w _ 5 Tryz.underlying34 Tryz.underlying5 b o bs.length c bs rfl (fun i hi => ?_) _ Tryz.underlying9
      obtain ⟨cs, _, rfl, g⟩ := hc i bs[i] (List.getElem?_eq_getElem hi)
      have := g 0 _ rfl
      rw [List.getD_eq_getElem?_getD, List.getElem?_eq_getElem hi]
      simpa using this
end Go.Proofs.YtmnebeikafigjaaGreatDoor
/- LinkData's walk. -/
set_option linter.unusedVariables false
set_option linter.unusedSimpArgs false
namespace Go.Proofs.YtmnebeikafigjaaGreatDoor
open Go.RowKit Go.Sep Go.St
/-- What one cell of memory is when bytes were laid. -/
theorem laid_get {q0 : Nat} {bs : List Int} (h : q0 + bs.length ≤ 65536) (k : Nat) (hk : k < 65536) : ∃ v : Int, (ints .u8 (laid memX q0 bs))[k]? = some (.int .u8 v) ∧ (k < q0 ∨ q0 + bs.length ≤ k → v = 0) := by
  have hm : memX = List.replicate 65536 0 := by unfold memX; rfl
  have hml : memX.length = 65536 := by unfold memX; exact List.length_replicate
  have hl : (laid memX q0 bs).length = 65536 := by rw [laid_len (by rw [hml]; exact h), hml]
  refine ⟨(laid memX q0 bs)[k]'(by omega), ints_get _ _ _ _ (List.getElem?_eq_getElem _), fun hor => ?_⟩
  have e : (laid memX q0 bs)[k]? = some 0 := by
    unfold laid
    have hz : ∀ j, j < 65536 → memX[j]? = some 0 := fun j hj => by rw [hm, List.getElem?_replicate, if_pos hj]
    have ht : (memX.take q0).length = q0 := by rw [List.length_take, hml]; omega
    rcases hor with h1 | h1
    · rw [List.append_assoc, List.getElem?_append_left (by omega), List.getElem?_take, if_pos h1]
      exact hz k hk
    · rw [List.getElem?_append_right (by rw [List.length_append]; omega), List.getElem?_drop, List.length_append, ht]
      rw [show q0 + bs.length + (k - (q0 + bs.length)) = k by omega]
      exact hz k hk
  have := List.getElem?_eq_getElem (show k < (laid memX q0 bs).length by omega)
  rw [e] at this
  exact (Option.some.inj this).symm
theorem laid_mid {q0 : Nat} {bs l : List Int} (h : q0 + bs.length ≤ l.length) (i : Nat) (x : Int) (hx : bs[i]? = some x) : (laid l q0 bs)[q0 + i]? = some x := by
  have hi := (List.getElem?_eq_some_iff.1 hx).1
  have ht : (l.take q0).length = q0 := by rw [List.length_take]; omega
  unfold laid
  rw [List.append_assoc, List.getElem?_append_right (by omega), ht, show q0 + i - q0 = i by omega, List.getElem?_append_left hi]
  exact hx
theorem slice_both {t e : TypeId} {i : TypeInfo} (ht : Tryz.prog.underlying t = some (.slice e)) (hi : Tryz.prog.info? e = some i) (hsz : i.size = 1) (A : Option Addr) (n c l h : Nat) (h1 : l ≤ h) (h2 : h ≤ c) :
    ∀ W : World, (Instr.slice t (.slice A n c) (some (.int .i64 (l : Int))) (some (.int .i64 (h : Int))) none).run Tryz.prog W = .ok (.slice (if c = l then A else A.map (·.add l)) (h - l) (c - l)) W := by
  intro W
  have hel : Tryz.prog.elem t = e := by simp [Program.elem, ht]
  have hu : Tryz.prog.underlying t = some (.slice (Tryz.prog.elem t)) := by rw [hel]; exact ht
  rw [run_slice_lh W t A n c hu .i64 .i64 (l : Int) (h : Int) (by omega) (by omega) (by omega), hel]
  simp [sizeOf, typeInfo, hi, hsz, sliced, Result.andThen]
/-- What Make has left, as the law looks at it. -/
structure Left (w : World) (iB q0 : Nat) (bs : List Int) : Prop where
  mem : ∃ g mc, w.cell? ⟨iB, 14, none⟩ = some (.slice (some ⟨g, 0, none⟩) 65536 mc) ∧ 65536 ≤ mc ∧ mc ≤ maxLen ∧ ∀ k v, (ints .u8 (laid memX q0 bs))[k]? = some v → w.cell? ⟨g, k, none⟩ = some v
  das : ∃ g dc, w.cell? ⟨iB, 18, none⟩ = some (.slice (some ⟨g, 0, none⟩) 1 dc) ∧ w.cell? ⟨g, 0, none⟩ = some (.bool true)
theorem left_of {w : World} {S : Nat → Prop} {L : Key → Option Ck} {u iB q0 : Nat} {M : Mo} {bs : List Int} (h : Si w S L u iB M { fixedI [] 0 with mem := laid memX q0 bs, das := [true] }) (hl : q0 + bs.length ≤ 65536) : Left w iB q0 bs := by
  obtain ⟨mc, bv, mv, tv, gv, ev, dv, h1, h2, _, h4, _, _, _, h8⟩ := h.ins
  have hm : memX.length = 65536 := by unfold memX; exact List.length_replicate
  have c14 := h.sep.cell0 h1 14 mv (by rw [List.getElem?_append_right (by rw [h2.len]; omega), h2.len]; rfl)
  have c18 := h.sep.cell0 h1 18 dv (by rw [List.getElem?_append_right (by rw [h2.len]; omega), h2.len]; rfl)
  have r4 := h.sep.holds _ _ h4
  have r8 := h.sep.holds _ _ h8
  obtain ⟨A, n, c, rfl, hnc, hcm, hx, _⟩ := Row.rd r4
  rw [ints_len, Nat.mul_one] at hx
  have hx : (laid memX q0 bs).length = n := hx
  rw [laid_len (by omega), hm] at hx
  subst hx
  obtain ⟨A2, n2, c2, rfl, _, _, hx2, _⟩ := Row.rd r8
  rw [bools_len, Nat.mul_one] at hx2
  have hx2 : 1 = n2 := hx2
  subst hx2
  refine ⟨?_, ?_⟩
  · obtain ⟨v, hv, _⟩ := laid_get hl 0 (by omega)
    obtain ⟨g, rfl, _⟩ := Row.cellAt r4 0 _ hv
    refine ⟨g, c, c14, hnc, hcm, fun k v hk => ?_⟩
    obtain ⟨g', e, hc⟩ := Row.cellAt r4 k v hk
    cases e
    exact hc
  · obtain ⟨g, rfl, hc⟩ := Row.cellAt r8 0 (.bool true) rfl
    exact ⟨g, c2, c18, hc⟩
end Go.Proofs.YtmnebeikafigjaaGreatDoor
