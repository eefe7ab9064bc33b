/- A row that is held, and what append makes of it; what a list reads as. -/
import Derived.Test.YtfjnhdbbjggkmaaSep0
import Derived.Maps.AppendAt
import Derived.Deep.Slices
import Derived.Deep.AppendLies
import Derived.RegionTactic
import Derived.Deep.RegionHeld
set_option linter.unusedVariables false
namespace Go.Sep
open Go.RowKit
variable {P : Program}
/-- What a slice reads as: its cells, one behind the other. -/
def Rd (w : World) (sz : Nat) (A : Option Addr) (n : Nat) (xs : List Value) : Prop :=
  xs.length = n * sz ∧ (0 < n → ∃ a, A = some a ∧ a.spot = none ∧ ∀ j u, xs[j]? = some u → w.cell? (a.add j) = some u)
theorem Rd.alloc {w : World} {sz : Nat} {A : Option Addr} {n : Nat} {xs : List Value} (h : Rd w sz A n xs) (o : Obj) : Rd (w.alloc o) sz A n xs :=
  ⟨h.1, fun hn => by
    obtain ⟨a, e, h0, hc⟩ := h.2 hn
    refine ⟨a, e, h0, fun j u hu => ?_⟩
    have := hc j u hu
    rw [World.cell?_alloc_some w _ o (by rw [this]; rfl)]
    exact this⟩
theorem Row.rd {w : World} {e sz : Nat} {v : Value} {xs : List Value} (h : Row w e sz v xs) : ∃ A n c, v = .slice A n c ∧ n ≤ c ∧ c ≤ maxLen ∧ xs.length = n * sz ∧ Rd w sz A n xs := by
  obtain ⟨A, n, c, rfl, h1, hA, h2, h3, hr⟩ := h
  refine ⟨A, n, c, rfl, h2, h3, h1, h1, fun hn => ?_⟩
  obtain ⟨g, cur, rfl, hg, hc, ht⟩ := hr (by omega)
  refine ⟨_, rfl, rfl, fun j u hu => ?_⟩
  rw [show (Addr.mk g 0 none).add j = ⟨g, j, none⟩ by unfold Addr.add; split <;> simp_all]
  rw [← ht, List.getElem?_take] at hu
  split at hu
  · simp [World.cell?, hg]; simpa using hu
  · cases hu
theorem row_nil (w : World) (e sz : Nat) (A : Option Addr) : Row w e sz (.slice A 0 0) [] := ⟨A, 0, 0, rfl, by simp, fun _ => rfl, Nat.le_refl _, by simp [maxLen], fun h => by omega⟩
theorem Row.own {w : World} {e sz : Nat} {v : Value} {xs : List Value} (h : Row w e sz v xs) {b : Nat} (hb : rowBlock v = some b) : ∃ n, w.ownsRow 0 e sz v n xs ∧ v.ownBlock = some b := by
  obtain ⟨A, n, c, rfl, h1, hA, h2, h3, hr⟩ := h
  cases A with
  | none => simp [rowBlock] at hb
  | some a =>
    simp only [rowBlock] at hb
    split at hb
    · cases hb
    · cases hb
      obtain ⟨g, cur, ha, hg, hc, ht⟩ := hr (by omega)
      cases ha
      exact ⟨n, ⟨h1, .inr ⟨g, c, cur, rfl, Nat.zero_le _, hg, h2, h3, hc, ht⟩⟩, rfl⟩
theorem Row.of_own {w : World} {base e sz n : Nat} {v : Value} {xs : List Value} (h : w.ownsRow base e sz v n xs) : Row w e sz v xs := by
  obtain ⟨h1, h2⟩ := h
  rcases h2 with ⟨rfl, rfl⟩ | ⟨g, cap, cur, rfl, hb, hg, hn, hm, hc, ht⟩
  · obtain rfl : xs = [] := List.eq_nil_of_length_eq_zero (by simpa using h1)
    exact row_nil _ _ _ _
  · exact ⟨_, _, _, rfl, h1, (fun h => nomatch h), hn, hm, fun _ => ⟨g, cur, rfl, hg, hc, ht⟩⟩
theorem rowBlock_of_own {v : Value} {b : Nat} (h : rowBlock v = some b) : v.ownBlock = some b := by
  cases v with
  | slice a n c =>
    cases a with
    | none => simp [rowBlock] at h
    | some a =>
      simp only [rowBlock] at h
      split at h
      · cases h
      · exact h
  | _ => simp [rowBlock] at h
/-- append onto a row that is held. -/
theorem Row.append {w : World} {e sz : Nat} {v : Value} {xs : List Value} (h : Row w e sz v xs) (t ty : TypeId) (z : Value) (bytes : Nat) (ht : P.underlying t = some (.slice e))
    (hinfo : (P.info? e).map (fun i => (i.zero, i.size, i.bytes)) = some (some z, sz, bytes)) (hzs : z.cells.size = sz) (hsz : 0 < sz)
    (A : Option Addr) (m c : Nat) (ys : List Value) (hy : Rd w sz A m ys) (h1 : ∀ u ∈ ys, u.oneCell' = true) (hb : 0 < bytes) (hbytes : (xs.length + ys.length) * bytes ≤ 140737488355328) :
    ∃ v' w', (Builtin.append_ #[t, t] ty #[v, .slice A m c]).run P w = .ok v' w' ∧ Row w' e sz v' (xs ++ ys) ∧ w.grownBy w' (rowBlock v) ∧
      (rowBlock v' = rowBlock v ∨ ∃ b, rowBlock v' = some b ∧ w.heap.size ≤ b) := by
  obtain ⟨i, hi, hz, hsize, hby⟩ : ∃ i, P.info? e = some i ∧ i.zero = some z ∧ i.size = sz ∧ i.bytes = bytes := by
    cases hi : P.info? e with
    | none => rw [hi] at hinfo; cases hinfo
    | some i =>
      rw [hi] at hinfo
      injection hinfo with hinfo
      injection hinfo with e1 e2
      injection e2 with e2 e3
      exact ⟨i, rfl, e1, e2, e3⟩
  have same : ∀ row, w.grownBy w row := fun row => ⟨rfl, rfl, rfl, Nat.le_refl _, fun _ _ _ => rfl⟩
  have bytes1 : ∀ n : Nat, n * sz ≤ xs.length → (n + m) * bytes ≤ 140737488355328 := by
    intro n hn
    have e1 : n ≤ xs.length := Nat.le_trans (Nat.le_mul_of_pos_right n hsz) hn
    have e2 : m ≤ ys.length := by rw [hy.1]; exact Nat.le_mul_of_pos_right m hsz
    exact Nat.le_trans (Nat.mul_le_mul_right _ (by omega)) hbytes
  have len1 : ∀ n : Nat, n * sz ≤ xs.length → n + m ≤ maxLen := by
    intro n hn
    have := bytes1 n hn
    have : n + m ≤ (n + m) * bytes := Nat.le_mul_of_pos_right _ hb
    simp only [maxLen]; omega
  by_cases hm : m = 0
  · subst hm
    obtain rfl : ys = [] := List.eq_nil_of_length_eq_zero (by simpa using hy.1)
    obtain ⟨B, n, cc, rfl, g1, hA, g2, g3, hr⟩ := h
    refine ⟨.slice B n cc, w, ?_, by rw [List.append_nil]; exact ⟨B, n, cc, rfl, g1, hA, g2, g3, hr⟩, same _, .inl rfl⟩
    cases A <;> cases B <;> simp [Builtin.append_, run_underlying ht, sizeOf, typeInfo, hi, Builtin.lenOf, g2, Builtin.firstCells, loadCells, loadCellsFrom, storeCells]
  · obtain ⟨a, rfl, ha0, ha⟩ := hy.2 (by omega)
    cases hrb : rowBlock v with
    | some b =>
      obtain ⟨n, hown, hv⟩ := h.own hrb
      have hxl := hown.1
      obtain ⟨v', w', r1, r2, r3, r4, r5⟩ := run_append_own_at (P := P) w 0 t ty e i z sz bytes ht hi hz hsize hby hzs hsz v n xs hown a m c ys hy.1 ha h1 (len1 n (by omega)) (bytes1 n (by omega)) (Nat.zero_le _)
      refine ⟨v', w', r1, Row.of_own r2, by rw [← hv]; exact r3, ?_⟩
      cases hrb' : rowBlock v' with
      | none =>
        exfalso
        obtain ⟨g, cap, hv', _, _⟩ := r2.form (by omega)
        have := r2.2
        rcases this with ⟨_, h0⟩ | ⟨g2, cap2, cur, hv2, _, _, hn2, _⟩
        · omega
        · rw [hv2] at hrb'
          simp [rowBlock] at hrb'
          omega
      | some b' =>
        have := rowBlock_of_own hrb'
        rcases r5 with r5 | r5
        · left; rw [← hv, ← r5, this]
        · right; rw [this] at r5; injection r5 with r5; exact ⟨b', rfl, by omega⟩
    | none =>
      obtain ⟨B, n, cc, rfl, g1, hA, g2, g3, hr⟩ := h
      have hc0 : cc = 0 := by
        cases B with
        | none => exact hA rfl
        | some bb => by_cases h0 : cc = 0; exact h0; simp [rowBlock, h0] at hrb
      subst hc0
      obtain rfl : n = 0 := by omega
      obtain rfl : xs = [] := List.eq_nil_of_length_eq_zero (by simpa using g1)
      have fin : ∀ (v' : Value) (w' : World), w'.ownsRow w.heap.size e sz v' (0 + m) ([] ++ ys) → (rowBlock v' = none ∨ ∃ b, rowBlock v' = some b ∧ w.heap.size ≤ b) := by
        intro v' w' ho
        cases hrb' : rowBlock v' with
        | none => exact .inl rfl
        | some b' => exact .inr ⟨b', rfl, (ho.lt b' (rowBlock_of_own hrb')).1⟩
      cases B with
      | none =>
        obtain ⟨v', w', r1, r2, r3, _⟩ := run_append_own (P := P) w w.heap.size t ty e i z sz bytes ht hi hz hsize hby hzs hsz (.slice none 0 0) 0 [] (World.ownsRow_nil w _ e sz) a m c ys hy.1 ha h1 (len1 0 (by simp)) (bytes1 0 (by simp)) (Nat.le_refl _)
        exact ⟨v', w', r1, Row.of_own r2, r3, fin v' w' r2⟩
      | some bb =>
        obtain ⟨v', w', r1, r2, r3⟩ := run_append_arg_grows (P := P) w t ty e i z sz bytes ht hi hz hsize hby hzs hsz bb 0 0 [] (by simp) (fun j u hu => by simp at hu) a m c ys hy.1 ha (by omega) (len1 0 (by simp)) (bytes1 0 (by simp))
        exact ⟨v', w', r1, Row.of_own r2, r3, fin v' w' r2⟩
section
variable {t e : TypeId} {i : TypeInfo} {size : Nat}
/-- l[:k]. -/
theorem slice_to (ht : P.underlying t = some (.slice e)) (hi : P.info? e = some i) (A : Option Addr) (n c k : Nat) (hk : k ≤ n) (hc : n ≤ c) :
    ∀ W : World, (Instr.slice t (.slice A n c) none (some (.int .i64 (k : Int))) none).run P W = .ok (.slice A k c) W := by
  intro W
  have hel : P.elem t = e := by simp [Program.elem, ht]
  have hu : P.underlying t = some (.slice (P.elem t)) := by rw [hel]; exact ht
  have ha : (A.map fun x => x.add 0) = A := by cases A <;> simp [Addr.add]
  rw [run_slice_h W t A n c hu .i64 (k : Int) (by omega) (by omega), hel]
  simp [sizeOf, typeInfo, hi, sliced, Result.andThen, ha]
/-- l[k:]. -/
theorem slice_from (ht : P.underlying t = some (.slice e)) (hi : P.info? e = some i) (hsz : i.size = size) (A : Option Addr) (n c k : Nat) (hk : k ≤ n) :
    ∃ B, (∀ W : World, (Instr.slice t (.slice A n c) (some (.int .i64 (k : Int))) none none).run P W = .ok (.slice B (n - k) (c - k)) W) ∧ (B = none → A = none) ∧ ∀ (w : World) (xs : List Value), n ≤ c → Rd w size A n xs → Rd w size B (n - k) (xs.drop (k * size)) := by
  have hel : P.elem t = e := by simp [Program.elem, ht]
  have hu : P.underlying t = some (.slice (P.elem t)) := by rw [hel]; exact ht
  refine ⟨if c = k then A else A.map (·.add (k * size)), fun W => ?_, fun h => by (split at h; exact h; simpa using h), fun w xs hc hr => ⟨?_, fun hp => ?_⟩⟩
  · rw [run_slice_l W t A n c hu .i64 (k : Int) (by omega) (by omega), hel]
    simp [sizeOf, typeInfo, hi, hsz, sliced, Result.andThen]
  · rw [List.length_drop, hr.1, Nat.sub_mul]
  · obtain ⟨a, rfl, ha, hcl⟩ := hr.2 (by omega)
    refine ⟨a.add (k * size), by rw [if_neg (by omega)]; rfl, ?_, fun j u hu => ?_⟩
    · unfold Addr.add; split
      · exact ha
      · rfl
    · rw [List.getElem?_drop] at hu
      rw [Go.Deep.add_add]
      exact hcl _ u hu
end
end Go.Sep
