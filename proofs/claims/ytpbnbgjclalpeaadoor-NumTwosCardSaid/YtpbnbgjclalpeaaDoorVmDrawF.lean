/- VM: regions that are drawn (sixth part): any order does what the text's order does. -/
import Derived.Test.YtpbnbgjclalpeaaDoorVmDrawE
set_option linter.unusedVariables false
set_option linter.unusedSimpArgs false
namespace Go.Vm
open Go.RowKit
/-- What is known of the run in the text's order. -/
structure Trc (call : CallT) (cx : Cx) (ops : Array Oper) (T : Nat → Tm) (H : Nat → Tr Ob) (N : Nat → Nat) (W : Nat → V) (RD WR : Nat → Nat) (F : Nat → List Fp) : Prop where
  tc : Tc call cx ops T H N W RD WR F 0 ops.size
  pairs : ∀ i, i < ops.size → ∀ j, j < i → bit ops i j = false → okPair (.mk (RD i) (WR i) (N i) (N (i + 1))) (.mk (RD j) (WR j) (N j) (N (j + 1))) = true
  chk : chkDraw ops.toList = true
section
variable {env : Nat → Int} {n0 : Nat} {P : Program} {cx : Cx} {call : CallT} {ops : Array Oper} {T : Nat → Tm} {H : Nat → Tr Ob} {N : Nat → Nat} {W : Nat → V} {RD WR : Nat → Nat} {F : Nat → List Fp}
theorem oper_at (ops : Array Oper) {k : Nat} (h : k < ops.size) : ∃ o, ops[k]? = some o := ⟨_, Array.getElem?_eq_getElem h⟩
theorem Trc.locat (z : Trc call cx ops T H N W RD WR F) (hl : LocC call) {k : Nat} {o : Oper} (hk : k < ops.size) (ho : ops[k]? = some o)
    (hx : opX call (vop o.op cx (T k)) (H k) (N k) (.on 0 0) = .ok (W k) (.mk (H (k + 1)) (N (k + 1)) (.on (RD k) (WR k)))) : LocAt (opX call (vop o.op cx (T k))) (H k) (N k) (W k) (H (k + 1)) (N (k + 1)) (RD k) (WR k) := by
  obtain ⟨rd, wr, q1, q2⟩ := opX_loc hl _ _ _ _ _ _ _ _ hx
  rw [Lg.cat_eq] at q1
  simp only [Nat.or_zero, Lg.on.injEq] at q1
  rw [q1.1, q1.2]
  exact q2
theorem Trc.frame (z : Trc call cx ops T H N W RD WR F) (hl : LocC call) (k : Nat) (hk : k < ops.size) : N k ≤ N (k + 1) ∧ ∀ b, ¬ Foot (WR k) (N k) (N (k + 1)) b → (H (k + 1)).get b = (H k).get b := by
  obtain ⟨o, ho⟩ := oper_at ops hk
  obtain ⟨_, _, h⟩ := z.tc.step k o (by omega) hk ho
  rcases h with ⟨_, _, h1, h2, _, _⟩ | ⟨_, hx⟩
  · exact ⟨by omega, fun b _ => by rw [h1]⟩
  · obtain ⟨q1, q2, _⟩ := z.locat hl hk ho hx
    exact ⟨q1, q2⟩
/-- Two operations that meet have an order. -/
def Ord (ops : Array Oper) (i j : Nat) : Prop := (j < i ∧ bit ops i j = true) ∨ (i < j ∧ bit ops j i = true)
theorem Trc.meet (z : Trc call cx ops T H N W RD WR F) {i j b : Nat} (hi : i < ops.size) (hj : j < ops.size) (hij : j ≠ i) (h1 : (RD i).testBit b = true ∨ Foot (WR i) (N i) (N (i + 1)) b) (h2 : Foot (WR j) (N j) (N (j + 1)) b) : Ord ops i j := by
  rcases Nat.lt_or_ge j i with h | h
  · cases hb : bit ops i j with
    | true => exact .inl ⟨h, hb⟩
    | false => exact absurd h2 ((okPair_ok (z.pairs i hi j h hb)).1 b h1)
  · have h : i < j := by omega
    cases hb : bit ops j i with
    | true => exact .inr ⟨h, hb⟩
    | false => exact absurd h1 ((okPair_ok (z.pairs j hj i h hb)).2 b h2)
theorem Trc.share (z : Trc call cx ops T H N W RD WR F) {i j d : Nat} {o o' : Oper} (hi : i < ops.size) (hj : j < ops.size) (hij : j ≠ i) (ho : ops[i]? = some o) (ho' : ops[j]? = some o') (h1 : d ∈ o.looksAt ops ∨ o.dst = some d) (h2 : o'.dst = some d) : Ord ops i j := by
  rcases Nat.lt_or_ge j i with h | h
  · rcases chk_pair z.chk hi h with hb | hb
    · exact .inl ⟨h, hb⟩
    · unfold apart2 at hb
      rw [ho, ho'] at hb
      obtain ⟨a1, a2, a3⟩ := Oper.apart_spec hb
      rcases h1 with h1 | h1
      · exact absurd h1 (a3 d h2)
      · exact absurd h2 (a2 d h1)
  · have h : i < j := by omega
    rcases chk_pair z.chk hj h with hb | hb
    · exact .inr ⟨h, hb⟩
    · unfold apart2 at hb
      rw [ho, ho'] at hb
      obtain ⟨a1, a2, a3⟩ := Oper.apart_spec hb
      rcases h1 with h1 | h1
      · exact absurd h1 (a1 d h2)
      · exact absurd h1 (a2 d h2)
/-- Sets that hold what stands ahead. -/
def Closed (ops : Array Oper) (S : Nat → Bool) : Prop := ∀ k o, S k = true → ops[k]? = some o → ∀ e ∈ o.after.toList, Region.binds .any e = true → S e.on = true
theorem ord_side {S : Nat → Bool} (hc : Closed ops S) {i : Nat} {o : Oper} (hoi : ops[i]? = some o) (hS : S i = false) (hr : ∀ e ∈ o.after.toList, Region.binds .any e = true → S e.on = true) {j : Nat} (hj : j < ops.size) (h : Ord ops i j) : S j = true ↔ j < i := by
  have hc' : ∀ k o', (fun k => S k = true) k → ops[k]? = some o' → ∀ e ∈ o'.after.toList, Region.binds .any e = true → (fun k => S k = true) e.on := fun k o' h1 h2 => hc k o' h1 h2
  rcases h with ⟨h1, h2⟩ | ⟨h1, h2⟩
  · exact ⟨fun _ => h1, fun _ => (bit_in ops (fun k => S k = true) i o hoi hr hc' j h2).1⟩
  · refine ⟨fun hs => ?_, fun h => by omega⟩
    obtain ⟨oj, hoj⟩ := oper_at ops hj
    have := (bit_in ops (fun k => S k = true) j oj hoj (fun e he hb => hc j oj hs hoj e he hb) hc' i h2).1
    have this : S i = true := this
    rw [hS] at this; cases this
end
end Go.Vm
