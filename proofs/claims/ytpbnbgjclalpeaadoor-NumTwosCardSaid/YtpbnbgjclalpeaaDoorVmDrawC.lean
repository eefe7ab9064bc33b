/- VM: regions that are drawn (third part): the check unpacked; the static check. -/
import Derived.Test.YtpbnbgjclalpeaaDoorVmDrawB
set_option linter.unusedVariables false
set_option linter.unusedSimpArgs false
namespace Go.Vm
theorem okRow_ok (bits : Nat) (a : Fp) (F : Nat → List Fp) (fp : Nat → Fp) : ∀ (k : Nat), (∀ j, j < k → F (j + 1) = fp j :: F j) → F 0 = [] → okRow bits a (F k) k = true → ∀ j, j < k → Nat.testBit bits j = false → okPair a (fp j) = true
  | 0, _, _, _, j, hj, _ => by omega
  | k + 1, hF, h0, h, j, hj, hb => by
    rw [hF k (by omega)] at h
    have h : (Bool.rec (Bool.rec false (okRow bits a (F k) (k + 1 - 1)) (okPair a (fp k))) (okRow bits a (F k) (k + 1 - 1)) (Nat.testBit bits (k + 1 - 1)) : Bool) = true := h
    rw [Nat.add_sub_cancel] at h
    have ih := okRow_ok bits a F fp k (fun j hj => hF j (by omega)) h0
    by_cases e : j = k
    · subst e
      rw [hb] at h
      exact (bool_and h).1
    · cases hk : Nat.testBit bits k with
      | true => rw [hk] at h; exact ih h j (by omega) hb
      | false => rw [hk] at h; exact ih (bool_and h).2 j (by omega) hb
theorem okDr_ok (ops : Array Oper) (F : Nat → List Fp) (fp : Nat → Fp) : ∀ (n : Nat), (∀ j, j < n → F (j + 1) = fp j :: F j) → F 0 = [] → okDr (F n) (bitsAt ops n) n = true → ∀ i, i < n → ∀ j, j < i → bit ops i j = false → okPair (fp i) (fp j) = true
  | 0, _, _, _, i, hi, _, _, _ => by omega
  | n + 1, hF, h0, h, i, hi, j, hj, hb => by
    rw [hF n (by omega)] at h
    have h : (Bool.rec false (okDr (F n) (bitsAt ops n) (n + 1 - 1)) (okRow ((bitsAt ops (n + 1)).headD 0) (fp n) (F n) (n + 1 - 1)) : Bool) = true := h
    rw [Nat.add_sub_cancel] at h
    obtain ⟨h1, h2⟩ := bool_and h
    by_cases e : i = n
    · subst e
      exact okRow_ok _ _ F fp i (fun j hj => hF j (by omega)) h0 h1 j hj hb
    · exact okDr_ok ops F fp n (fun j hj => hF j (by omega)) h0 h2 i (by omega) j hj hb
/-- What a bit says: an edge that binds, or a way over one. -/
theorem rnth_eq : ∀ (l : List Nat) (n : Nat), rnth l n = (l[n]?).getD 0
  | [], _ => rfl
  | x :: _, 0 => rfl
  | _ :: l, n + 1 => rnth_eq l n
theorem bitsAt_get (ops : Array Oper) : ∀ (n k : Nat), k < n → (bitsAt ops n)[n - 1 - k]? = some ((bitsAt ops (k + 1)).headD 0)
  | 0, k, h => by omega
  | n + 1, k, h => by
    by_cases e : k = n
    · subst e
      rw [show k + 1 - 1 - k = 0 by omega]
      rfl
    · have ih := bitsAt_get ops n k (by omega)
      rw [show n + 1 - 1 - k = (n - 1 - k) + 1 by omega]
      exact ih
theorem bitsOf_has (acc : List Nat) (n j : Nat) : ∀ (es : List Edge), (bitsOf acc n es).testBit j = true → ∃ e ∈ es, binding e.ground = true ∧ e.on < n ∧ (j = e.on ∨ (rnth acc (n - 1 - e.on)).testBit j = true)
  | [], h => absurd h (has_zero j)
  | e :: es, h => by
    obtain ⟨on, g⟩ := e
    have h : Nat.testBit (Bool.rec (bitsOf acc n es) (Bool.rec (bitsOf acc n es) ((2 ^ on ||| rnth acc (n - 1 - on)) ||| bitsOf acc n es) (Nat.ble (on + 1) n)) (binding g)) j = true := h
    have ih : (bitsOf acc n es).testBit j = true → ∃ e ∈ (Edge.mk on g :: es), binding e.ground = true ∧ e.on < n ∧ (j = e.on ∨ (rnth acc (n - 1 - e.on)).testBit j = true) := fun h =>
      let ⟨e, h1, h2⟩ := bitsOf_has acc n j es h
      ⟨e, List.mem_cons_of_mem _ h1, h2⟩
    cases hb : binding g with
    | false => rw [hb] at h; exact ih h
    | true =>
      rw [hb] at h
      cases hn : Nat.ble (on + 1) n with
      | false => rw [hn] at h; exact ih h
      | true =>
        rw [hn] at h
        rcases (has_or _ _ _).1 h with h | h
        · rcases (has_or _ _ _).1 h with h | h
          · exact ⟨⟨on, g⟩, List.mem_cons_self, hb, Nat.le_of_ble_eq_true hn, .inl ((has_one _ _).1 h)⟩
          · exact ⟨⟨on, g⟩, List.mem_cons_self, hb, Nat.le_of_ble_eq_true hn, .inr h⟩
        · exact ih h
theorem binding_eq (e : Edge) : Region.binds .any e = binding e.ground := by
  obtain ⟨on, g⟩ := e
  cases g <;> rfl
/-- A set of operations that holds, with each, the ones that its binding edges name, holds all that stand ahead. -/
theorem bit_in (ops : Array Oper) (S : Nat → Prop) : ∀ (i : Nat) (o : Oper), ops[i]? = some o → (∀ e ∈ o.after.toList, Region.binds .any e = true → S e.on) →
    (∀ k o', S k → ops[k]? = some o' → ∀ e ∈ o'.after.toList, Region.binds .any e = true → S e.on) → ∀ j, bit ops i j = true → S j ∧ j < i := by
  intro i
  induction i using Nat.strongRecOn with
  | _ i ihs =>
    intro o hoi hpre hcl j hb
    have hb : (bitsOf (bitsAt ops i) i o.after.toList).testBit j = true := by
      have : (bitsAt ops (i + 1)).headD 0 = bitsOf (bitsAt ops i) i o.after.toList := by simp only [bitsAt, hoi, List.headD_cons]
      unfold bit at hb
      rwa [this] at hb
    obtain ⟨e, h1, h2, h3, h4⟩ := bitsOf_has _ _ _ _ hb
    have hse := hpre e h1 (by rw [binding_eq]; exact h2)
    rcases h4 with h4 | h4
    · subst h4; exact ⟨hse, h3⟩
    · have hsz : e.on < ops.size := by
        have : i < ops.size := by
          rcases Nat.lt_or_ge i ops.size with h | h
          · exact h
          · rw [Array.getElem?_eq_none h] at hoi; cases hoi
        omega
      have hoe : ops[e.on]? = some ops[e.on] := Array.getElem?_eq_getElem hsz
      rw [rnth_eq, bitsAt_get ops i e.on h3] at h4
      have := ihs e.on h3 _ hoe (hcl e.on _ hse hoe) hcl j h4
      exact ⟨this.1, by omega⟩
end Go.Vm
