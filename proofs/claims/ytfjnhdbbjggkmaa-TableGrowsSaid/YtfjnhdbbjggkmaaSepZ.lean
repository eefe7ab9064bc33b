/- append of noughts onto a row that is held. -/
import Derived.Test.YtfjnhdbbjggkmaaSep1
set_option linter.unusedVariables false
namespace Go.Sep
open Go.RowKit
variable {P : Program}
theorem zeroCells_one (z : Value) (n : Nat) : Builtin.zeroCells #[z] n = Array.replicate n z := by
  apply Array.ext
  · simp [Builtin.zeroCells]
  · intro i h1 h2
    simp [Builtin.zeroCells, Nat.mod_one]
theorem Row.appendZ {w : World} {e : Nat} {v : Value} {xs : List Value} (h : Row w e 1 v xs) (t ti ty : TypeId) (ki : IntKind) (z : Value) (bytes : Nat) (ht : P.underlying t = some (.slice e)) (hti : P.underlying ti = some (.int ki))
    (hinfo : (P.info? e).map (fun i => (i.zero, i.size, i.bytes)) = some (some z, 1, bytes)) (hz1 : z.cells = #[z]) (ho : z.oneCell' = true) (hb : 0 < bytes)
    (n : Nat) (hbytes : (xs.length + n) * bytes ≤ 140737488355328) :
    ∃ v' w', (Builtin.append_ #[t, ti] ty #[v, .int .i64 (n : Int)]).run P w = .ok v' w' ∧ Row w' e 1 v' (xs ++ List.replicate n z) ∧ w.grownBy w' (rowBlock v) ∧
      (rowBlock v' = rowBlock v ∨ ∃ b, rowBlock v' = some b ∧ w.heap.size ≤ b) := by
  obtain ⟨i, hi, hz, hsize, hby⟩ : ∃ i, P.info? e = some i ∧ i.zero = some z ∧ i.size = 1 ∧ i.bytes = bytes := by
    cases hi : P.info? e with
    | none => rw [hi] at hinfo; cases hinfo
    | some i =>
      rw [hi] at hinfo
      injection hinfo with hinfo
      injection hinfo with e1 e2
      injection e2 with e2 e3
      exact ⟨i, rfl, e1, e2, e3⟩
  subst hby
  have hnn : xs.length + n ≤ 140737488355328 := Nat.le_trans (Nat.le_mul_of_pos_right _ hb) hbytes
  have hw : IntKind.i64.wrap (n : Int) = (n : Int) := IntWalk.i64_in _ (by omega)
  have hl0 : ¬ ((n : Int) < 0) := by omega
  have hby1 : n * i.bytes ≤ 140737488355328 := Nat.le_trans (Nat.mul_le_mul_right _ (Nat.le_add_left _ _)) hbytes
  have hl1 : ¬ (281474976710656 < (n : Int) * (i.bytes : Int)) := by
    have : ((n * i.bytes : Nat) : Int) = (n : Int) * (i.bytes : Int) := by simp
    omega
  obtain ⟨B, m, c, rfl, g1, hA, g2, g3, hr⟩ := h
  rw [Nat.mul_one] at g1
  have same : ∀ row, w.grownBy w row := fun row => ⟨rfl, rfl, rfl, Nat.le_refl _, fun _ _ _ => rfl⟩
  by_cases hn : n = 0
  · subst hn
    refine ⟨.slice B m c, w, ?_, by simp only [List.replicate_zero, List.append_nil]; exact ⟨B, m, c, rfl, by omega, hA, g2, g3, hr⟩, same _, .inl rfl⟩
    have hw0 : IntKind.i64.wrap 0 = 0 := by simpa using hw
    cases B <;> simp [Builtin.append_, run_underlying ht, run_underlying hti, sizeOf, typeInfo, hi, asInt, asIntOf, hw0, g2, storeCells]
  · by_cases hroom : m + n ≤ c
    · obtain ⟨g, cur, rfl, hg, hcs, htk⟩ := hr (by omega)
      rw [Nat.mul_one] at hcs htk
      have hst := run_storeCells_at P g m e (List.replicate n z) 0 cur w hg (by simp; omega) (by intro u hu; rw [List.eq_of_mem_replicate hu]; exact ho)
      simp only [Nat.add_zero] at hst
      refine ⟨.slice (some ⟨g, 0, none⟩) (m + n) c, w.setRow g (cur.toList.take m ++ List.replicate n z ++ cur.toList.drop (m + n)).toArray, ?_, ?_, ?_, .inl rfl⟩
      · simp [Builtin.append_, run_underlying ht, run_underlying hti, sizeOf, typeInfo, hi, asInt, asIntOf, hw, hl0, hl1, hroom, hn, zeroValue, hz, hz1, hsize, zeroCells_one, Addr.add_lit]
        rw [List.append_assoc] at hst
        simp only [List.length_replicate] at hst
        rw [hst]
        rfl
      · refine ⟨_, m + n, c, rfl, by simp [g1], (fun h => nomatch h), hroom, g3, fun _ => ⟨g, _, rfl, setRow_heap w g cur _ e _ hg, ?_, ?_⟩⟩
        · simp; omega
        · rw [Nat.mul_one]
          show List.take (m + n) (List.take m cur.toList ++ List.replicate n z ++ List.drop (m + n) cur.toList) = xs ++ List.replicate n z
          rw [htk, ← g1]
          have : (xs ++ List.replicate n z).length = xs.length + n := by simp
          rw [← this]
          exact List.take_left
      · refine ⟨rfl, rfl, rfl, by simp [World.setRow], fun k _ hk => setRow_other w g k _ (fun he => hk (by simp [rowBlock, he]; omega))⟩
    · have h63 : ¬ (9223372036854775807 < ((m : Int) + (n : Int))) := by omega
      have hfit := growslice_fits (need := m + n) (old := c) (bytes := i.bytes) (by omega) (by rw [← g1]; exact hbytes)
      have h48 : ¬ (281474976710656 < Builtin.nextslicecap (m + n) c * i.bytes) := by omega
      have hge := grownCap_ge w (m + n) c e
      have hcm := grownCap_le_maxLen w (m + n) c e (by simp only [maxLen]; omega)
      have hrun : (Builtin.append_ #[t, ti] ty #[.slice B m c, .int .i64 (n : Int)]).run P w = .ok (.slice (some ⟨w.heap.size, 0, none⟩) (m + n) (grownCap w (m + n) c e)) (w.drew.alloc (.cells (xs.toArray ++ Array.replicate n z ++ Array.replicate (grownCap w (m + n) c e - (m + n)) z) e)) := by
        have hf : (Builtin.firstCells i.size m (.slice B m c)).run P w.drew = .ok xs.toArray w.drew := by
          cases B with
          | none =>
            have : c = 0 := hA rfl
            obtain rfl : m = 0 := by omega
            obtain rfl : xs = [] := List.eq_nil_of_length_eq_zero g1
            exact run_firstCells_none (P := P) w.drew _ _ _ _
          | some b =>
            refine run_firstCells_some (P := P) w.drew i.size m b m c xs (by rw [hsize, Nat.mul_one]; exact g1) (fun j u hu => ?_)
            have hj := (List.getElem?_eq_some_iff.1 hu).1
            obtain ⟨g, cur, e1, hg, hcs, htk⟩ := hr (by omega)
            cases e1
            rw [Nat.mul_one] at htk
            rw [show (Addr.mk g 0 none).add j = ⟨g, j, none⟩ by unfold Addr.add; split <;> simp_all]
            rw [← htk, List.getElem?_take] at hu
            split at hu
            · rw [World.cell?_of_block (w := w) (w' := w.drew) (a := ⟨g, j, none⟩) rfl]; simp [World.cell?, hg]; simpa using hu
            · cases hu
        simp [Builtin.append_, run_underlying ht, run_underlying hti, sizeOf, typeInfo, hi, asInt, asIntOf, hw, hl0, hl1, hroom, hn, zeroValue, hz, hz1, hsize, h63, h48, Question.forced, newRow, grownCap, zeroCells_one]
        rw [hsize] at hf
        simp [hf]
      refine ⟨_, _, hrun, ⟨_, m + n, _, rfl, by simp [g1], (fun h => nomatch h), hge, hcm, fun _ => ⟨w.heap.size, _, rfl, heap_alloc_new w.drew _, ?_, ?_⟩⟩, ⟨rfl, rfl, rfl, by simp, fun k hk _ => heap_alloc_old w.drew _ hk⟩, ?_⟩
      · simp [g1]; omega
      · rw [Nat.mul_one]
        simp only [Array.toList_append, Array.toList_replicate]
        have : (xs ++ List.replicate n z).length = m + n := by simp [g1]
        rw [← this]
        exact List.take_left
      · right
        refine ⟨w.heap.size, ?_, Nat.le_refl _⟩
        simp [rowBlock]
        omega
end Go.Sep
