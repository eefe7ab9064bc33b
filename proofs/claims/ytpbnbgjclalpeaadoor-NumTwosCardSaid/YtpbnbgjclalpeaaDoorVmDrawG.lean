/- VM: regions that are drawn (seventh part): any order does what the text's order does: the walk over the sets. -/
import Derived.Test.YtpbnbgjclalpeaaDoorVmDrawF
set_option linter.unusedVariables false
set_option linter.unusedSimpArgs false
namespace Go.Vm
open Go.RowKit
section
variable {env : Nat → Int} {n0 : Nat} {P : Program} {cx : Cx} {call : CallT} {ops : Array Oper} {T : Nat → Tm} {H : Nat → Tr Ob} {N : Nat → Nat} {W : Nat → V} {RD WR : Nat → Nat} {F : Nat → List Fp}
theorem Rel.like {M : Mp} {g h : Tr Ob} {w : World} (r : Rel env n0 M g w) (e : ∀ b, h.get b = g.get b) : Rel env n0 M h w :=
  ⟨fun b hb => r.dom b (by rw [← e]; exact hb), fun b ob hb => r.row b ob (by rw [← e]; exact hb),
   fun b b' o o' p p' h1 h2 => r.inj b b' o o' p p' (by rw [← e]; exact h1) (by rw [← e]; exact h2), r.size⟩
theorem TmR.like {M : Mp} {t t' : Tm} {tmps : Array Value} (r : TmR env M t tmps) (e : ∀ d, t'.get d = t.get d) : TmR env M t' tmps := fun i => by rw [e]; exact r i
/-- How the state behind a set of operations stands to the run in the text's order. -/
structure Inv (ops : Array Oper) (T : Nat → Tm) (H : Nat → Tr Ob) (N : Nat → Nat) (W : Nat → V) (WR : Nat → Nat) (S : Nat → Bool) (g : Tr Ob) (t : Tm) : Prop where
  heap : ∀ b, g.get b = pickH H b (lastIn (fun j => S j && ft N WR b j) ops.size)
  tms : ∀ d, t.get d = pickT (T 0) W d (lastIn (fun j => S j && dstIs ops d j) ops.size)
theorem Trc.agreeT (z : Trc call cx ops T H N W RD WR F) {S : Nat → Bool} {g : Tr Ob} {t : Tm} (v : Inv ops T H N W WR S g t) (hc : Closed ops S) {i : Nat} {o : Oper} (hi : i < ops.size) (hoi : ops[i]? = some o) (hS : S i = false)
    (hr : ∀ e ∈ o.after.toList, Region.binds .any e = true → S e.on = true) : ∀ d, d ∈ o.looksAt ops ∨ o.dst = some d → t.get d = (T i).get d := by
  intro d hd
  rw [v.tms d, text_tm (Nat.le_refl _) (fun k o hk ho => (z.tc.step k o (by omega) hk ho).1) d i (by omega)]
  congr 1
  refine lastIn_text (by omega) fun j hj hq => ?_
  by_cases e : j = i
  · subst e; rw [hS]; simp
  · obtain ⟨oj, hoj⟩ := oper_at ops hj
    have hdj : (ops[j]?).bind (·.dst) = some d := of_decide_eq_true hq
    rw [hoj] at hdj
    exact ord_side hc hoi hS hr hj (z.share hi hj e hoi hoj hd hdj)
theorem Trc.agreeH (z : Trc call cx ops T H N W RD WR F) (hl : LocC call) {S : Nat → Bool} {g : Tr Ob} {t : Tm} (v : Inv ops T H N W WR S g t) (hc : Closed ops S) {i : Nat} {o : Oper} (hi : i < ops.size) (hoi : ops[i]? = some o) (hS : S i = false)
    (hr : ∀ e ∈ o.after.toList, Region.binds .any e = true → S e.on = true) : ∀ b, (RD i).testBit b = true ∨ Foot (WR i) (N i) (N (i + 1)) b → g.get b = (H i).get b := by
  intro b hb
  rw [v.heap b, text_heap H N WR (n := ops.size) (fun k hk => (z.frame hl k hk).2) b i (by omega)]
  congr 1
  refine lastIn_text (by omega) fun j hj hq => ?_
  by_cases e : j = i
  · subst e; rw [hS]; simp
  · exact ord_side hc hoi hS hr hj (z.meet hi hj e hb (of_decide_eq_true hq))
/-- One more operation. -/
theorem Trc.more (z : Trc call cx ops T H N W RD WR F) {S S' : Nat → Bool} {g g' : Tr Ob} {t : Tm} (v : Inv ops T H N W WR S g t) (hc : Closed ops S) {i : Nat} {o : Oper} (hi : i < ops.size) (hoi : ops[i]? = some o) (hS : S i = false)
    (hr : ∀ e ∈ o.after.toList, Region.binds .any e = true → S e.on = true) (h1 : S' i = true) (h2 : ∀ k, k ≠ i → S' k = S k) (hg : ∀ b, g'.get b = if Foot (WR i) (N i) (N (i + 1)) b then (H (i + 1)).get b else g.get b) :
    Inv ops T H N W WR S' g' (putT o.dst (W i) t) := by
  have last : ∀ (q : Nat → Bool), (∀ j, j < ops.size → j ≠ i → q i = true → q j = true → (S j = true ↔ j < i)) → lastIn (fun j => S' j && q j) ops.size = if q i = true then some i else lastIn (fun j => S j && q j) ops.size := by
    intro q hq
    by_cases hqi : q i = true
    · rw [if_pos hqi]
      refine lastIn_at i (by simp [h1, hqi]) _ hi fun j hj1 hj2 => ?_
      rw [h2 j (by omega)]
      cases hqj : q j with
      | false => simp
      | true =>
        cases hs : S j with
        | false => rfl
        | true => have := (hq j hj2 (by omega) hqi hqj).1 hs; omega
    · rw [if_neg hqi]
      refine lastIn_congr _ fun j hj => ?_
      by_cases e : j = i
      · subst e
        have : q j = false := by simpa using hqi
        simp [this]
      · rw [h2 j e]
  refine ⟨fun b => ?_, fun d => ?_⟩
  · rw [hg b, last (ft N WR b) fun j hj hji hi' hj' => ord_side hc hoi hS hr hj (z.meet hi hj hji (.inr (of_decide_eq_true hi')) (of_decide_eq_true hj'))]
    by_cases hf : Foot (WR i) (N i) (N (i + 1)) b
    · rw [if_pos hf, if_pos (show ft N WR b i = true from decide_eq_true hf)]; rfl
    · rw [if_neg hf, if_neg (by unfold ft; simpa using hf), v.heap b]
  · rw [putT_get, last (dstIs ops d) fun j hj hji hi' hj' => by
      obtain ⟨oj, hoj⟩ := oper_at ops hj
      have e1 : (ops[i]?).bind (·.dst) = some d := of_decide_eq_true hi'
      have e2 : (ops[j]?).bind (·.dst) = some d := of_decide_eq_true hj'
      rw [hoi] at e1
      rw [hoj] at e2
      exact ord_side hc hoi hS hr hj (z.share hi hj hji hoi hoj (.inr e1) e2)]
    by_cases hf : o.dst = some d
    · rw [if_pos hf, if_pos (by unfold dstIs; rw [hoi]; exact decide_eq_true hf)]; rfl
    · rw [if_neg hf, if_neg (by unfold dstIs; rw [hoi]; simpa using hf), v.tms d]
end
end Go.Vm
