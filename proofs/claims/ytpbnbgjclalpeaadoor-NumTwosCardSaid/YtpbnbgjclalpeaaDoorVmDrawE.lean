/- VM: regions that are drawn (fifth part): the static check, counting, agreement. -/
import Derived.Test.YtpbnbgjclalpeaaDoorVmDrawD
set_option linter.unusedVariables false
set_option linter.unusedSimpArgs false
namespace Go.Vm
noncomputable def apart2 (ops : Array Oper) (i j : Nat) : Bool := match ops[i]?, ops[j]? with
  | some x, some y => Oper.apart ops x y
  | _, _ => true
noncomputable def edgesOk (ops : Array Oper) (i : Nat) : Bool := match ops[i]? with
  | some o => o.after.toList.all fun e => !(Region.binds .any e) || decide (e.on < i)
  | none => true
/-- What is asked of a region that is drawn: its binding edges go back, and operations without an order do not share a temporary. -/
noncomputable def chkDraw (l : List Oper) : Bool := (List.range l.length).all fun i => edgesOk l.toArray i && (List.range i).all fun j => bit l.toArray i j || apart2 l.toArray i j
theorem chk_edges {ops : Array Oper} (h : chkDraw ops.toList = true) {i : Nat} {o : Oper} (ho : ops[i]? = some o) (hi : i < ops.size) : ∀ e ∈ o.after.toList, Region.binds .any e = true → e.on < i := by
  unfold chkDraw at h
  rw [List.all_eq_true] at h
  have h1 := h i (by simpa using hi)
  obtain ⟨h2, _⟩ := and_true h1
  rw [Array.toArray_toList] at h2
  unfold edgesOk at h2
  rw [ho] at h2
  intro e he hb
  have := (List.all_eq_true.1 h2) e he
  rw [hb] at this
  simpa using this
theorem chk_pair {ops : Array Oper} (h : chkDraw ops.toList = true) {i j : Nat} (hi : i < ops.size) (hj : j < i) : bit ops i j = true ∨ apart2 ops i j = true := by
  unfold chkDraw at h
  rw [List.all_eq_true] at h
  have h1 := h i (by simpa using hi)
  obtain ⟨_, h2⟩ := and_true h1
  rw [Array.toArray_toList] at h2
  have := (List.all_eq_true.1 h2) j (by simpa using hj)
  simpa using this
/-- How many are not listed. -/
def cntU (S : Nat → Bool) : Nat → Nat
  | 0 => 0
  | k + 1 => (match S k with | true => 0 | false => 1) + cntU S k
theorem cntU_zero {S : Nat → Bool} : ∀ n, cntU S n = 0 → ∀ k, k < n → S k = true
  | 0, _, k, hk => by omega
  | n + 1, h, k, hk => by
    simp only [cntU] at h
    cases hs : S n with
    | false => rw [hs] at h; simp at h
    | true =>
      rw [hs] at h
      by_cases e : k = n
      · rw [e]; exact hs
      · exact cntU_zero n (by simpa using h) k (by omega)
theorem cntU_same {S S' : Nat → Bool} : ∀ n, (∀ k, k < n → S' k = S k) → cntU S' n = cntU S n
  | 0, _ => rfl
  | n + 1, h => by simp only [cntU, h n (by omega)]; rw [cntU_same n fun k hk => h k (by omega)]
theorem cntU_dec {S S' : Nat → Bool} {i : Nat} (hi : S i = false) (hi' : S' i = true) (hs : ∀ k, k ≠ i → S' k = S k) : ∀ n, i < n → cntU S' n + 1 = cntU S n
  | 0, h => by omega
  | n + 1, h => by
    by_cases e : n = i
    · subst e
      simp only [cntU, hi, hi']
      rw [cntU_same n fun k hk => hs k (by omega)]
      omega
    · simp only [cntU, hs n e]
      have := cntU_dec hi hi' hs n (by omega)
      omega
/-- The least that is not listed. -/
theorem least_not {S : Nat → Bool} : ∀ n, (∃ k, k < n ∧ S k = false) → ∃ k, k < n ∧ S k = false ∧ ∀ j, j < k → S j = true
  | 0, ⟨k, h, _⟩ => by omega
  | n + 1, ⟨k, h1, h2⟩ => by
    by_cases hx : ∃ k, k < n ∧ S k = false
    · obtain ⟨k, a, b, c⟩ := least_not n hx
      exact ⟨k, by omega, b, c⟩
    · have hk : k = n := by
        by_cases e : k = n
        · exact e
        · exact absurd ⟨k, by omega, h2⟩ hx
      subst hk
      refine ⟨k, h1, h2, fun j hj => ?_⟩
      cases hs : S j with
      | true => rfl
      | false => exact absurd ⟨j, hj, hs⟩ hx
end Go.Vm
