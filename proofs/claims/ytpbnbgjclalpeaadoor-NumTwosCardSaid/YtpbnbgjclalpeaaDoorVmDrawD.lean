/- VM: regions that are drawn (fourth part): heaps and temporaries behind a set of operations. -/
import Derived.Test.YtpbnbgjclalpeaaDoorVmDrawC
set_option linter.unusedVariables false
set_option linter.unusedSimpArgs false
namespace Go.Vm
def lastIn (p : Nat → Bool) : Nat → Option Nat
  | 0 => none
  | k + 1 => match p k with
    | true => some k
    | false => lastIn p k
theorem lastIn_congr {p q : Nat → Bool} : ∀ k, (∀ j, j < k → p j = q j) → lastIn p k = lastIn q k
  | 0, _ => rfl
  | k + 1, h => by
    simp only [lastIn, h k (by omega)]
    rw [lastIn_congr k fun j hj => h j (by omega)]
theorem lastIn_none {p : Nat → Bool} : ∀ k, (∀ j, j < k → p j = false) → lastIn p k = none
  | 0, _ => rfl
  | k + 1, h => by simp only [lastIn, h k (by omega)]; exact lastIn_none k fun j hj => h j (by omega)
theorem lastIn_cut {p : Nat → Bool} (i : Nat) : ∀ k, i ≤ k → (∀ j, i ≤ j → j < k → p j = false) → lastIn p k = lastIn p i
  | 0, h, _ => by rw [show i = 0 by omega]
  | k + 1, h, hp => by
    by_cases e : i = k + 1
    · rw [e]
    · simp only [lastIn, hp k (by omega) (by omega)]
      exact lastIn_cut i k (by omega) fun j h1 h2 => hp j h1 (by omega)
theorem lastIn_at {p : Nat → Bool} (i : Nat) (hi : p i = true) (k : Nat) (h : i < k) (hp : ∀ j, i < j → j < k → p j = false) : lastIn p k = some i := by
  rw [lastIn_cut (i + 1) k h fun j h1 h2 => hp j h1 h2]
  simp only [lastIn, hi]
/-- What stands in a set where a rival stands just if it is ahead: as in the text's order. -/
theorem lastIn_text {S q : Nat → Bool} {i n : Nat} (hi : i ≤ n) (h : ∀ j, j < n → q j = true → (S j = true ↔ j < i)) : lastIn (fun j => S j && q j) n = lastIn q i := by
  rw [lastIn_cut i n hi]
  · refine lastIn_congr i fun j hj => ?_
    cases hq : q j with
    | false => simp
    | true => rw [(h j (by omega) hq).2 hj]; rfl
  · intro j h1 h2
    cases hq : q j with
    | false => simp
    | true =>
      cases hs : S j with
      | false => rfl
      | true => have := (h j h2 hq).1 hs; omega
section
variable (H : Nat → Tr Ob) (N : Nat → Nat) (W : Nat → V) (WR : Nat → Nat)
def ft (b j : Nat) : Bool := decide (Foot (WR j) (N j) (N (j + 1)) b)
noncomputable def pickH (b : Nat) (o : Option Nat) : Option Ob := match o with
  | some j => (H (j + 1)).get b
  | none => (H 0).get b
theorem text_heap {n : Nat} (hf : ∀ k, k < n → ∀ b, ¬ Foot (WR k) (N k) (N (k + 1)) b → (H (k + 1)).get b = (H k).get b) (b : Nat) : ∀ k, k ≤ n → (H k).get b = pickH H b (lastIn (ft N WR b) k)
  | 0, _ => rfl
  | k + 1, hk => by
    simp only [lastIn]
    cases hq : ft N WR b k with
    | true => rfl
    | false => rw [hf k (by omega) b (of_decide_eq_false hq)]; exact text_heap hf b k (by omega)
end
def dstIs (ops : Array Oper) (d j : Nat) : Bool := decide ((ops[j]?).bind (·.dst) = some d)
noncomputable def pickT (t0 : Tm) (W : Nat → V) (d : Nat) (o : Option Nat) : Option V := match o with
  | some j => some (W j)
  | none => t0.get d
theorem putT_get (dst : Option Tmp) (v : V) (t : Tm) (d : Nat) : (putT dst v t).get d = if dst = some d then some v else t.get d := by
  cases dst with
  | none => simp; rfl
  | some e =>
    show (t.set e v).get d = _
    rw [Tr.get_set]
    by_cases h : d = e
    · rw [if_pos h, if_pos (by rw [h])]
    · rw [if_neg h, if_neg (by intro x; cases x; exact h rfl)]
theorem text_tm {ops : Array Oper} {T : Nat → Tm} {W : Nat → V} {n : Nat} (hn : n ≤ ops.size) (ht : ∀ k o, k < n → ops[k]? = some o → T (k + 1) = putT o.dst (W k) (T k)) (d : Nat) : ∀ k, k ≤ n → (T k).get d = pickT (T 0) W d (lastIn (dstIs ops d) k)
  | 0, _ => rfl
  | k + 1, hk => by
    have hks : k < ops.size := by omega
    have hok : ops[k]? = some ops[k] := Array.getElem?_eq_getElem hks
    rw [ht k _ (by omega) hok, putT_get]
    simp only [lastIn]
    cases hq : dstIs ops d k with
    | true =>
      have : (ops[k]?).bind (·.dst) = some d := of_decide_eq_true hq
      rw [hok] at this
      have this : ops[k].dst = some d := this
      rw [if_pos this]; rfl
    | false =>
      have : ¬ (ops[k]?).bind (·.dst) = some d := of_decide_eq_false hq
      rw [hok] at this
      have this : ¬ ops[k].dst = some d := this
      rw [if_neg this]
      exact text_tm hn ht d k (by omega)
end Go.Vm
