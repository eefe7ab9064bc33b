/- VM: runs over numbers that are not known: a tree of cases, and what it says of the model. -/
import Derived.Test.YtpbnbgjclalpeaaDoorVmProg
set_option linter.unusedVariables false
set_option linter.unusedSimpArgs false
namespace Go.Vm
open Go.RowKit
/-- The cases of a run: what is asked of the numbers, what the run answers; out: what cannot be. -/
inductive DT
  | leaf (b : BE)
  | fork (e : BE) (yes no : DT)
  | out
def Covers (run : List (BE × Bool) → Option BE) : DT → List (BE × Bool) → Prop
  | .leaf b, pc => run pc = some b
  | .fork e y n, pc => Covers run y ((e, true) :: pc) ∧ Covers run n ((e, false) :: pc)
  | .out, _ => True
def DT.holds (env : Nat → Int) : DT → Prop
  | .leaf b => b.den env = true
  | .fork e y n => (e.den env = true → y.holds env) ∧ (e.den env = false → n.holds env)
  | .out => False
theorem covers_ok {run : List (BE × Bool) → Option BE} {env : Nat → Int} : ∀ {d : DT} {pc : List (BE × Bool)}, Covers run d pc → PcOk env pc → d.holds env → ∃ pc' b, PcOk env pc' ∧ run pc' = some b ∧ b.den env = true
  | .leaf b, pc, hc, hp, hd => ⟨pc, b, hp, hc, hd⟩
  | .out, _, _, _, hd => hd.elim
  | .fork e y n, pc, hc, hp, hd => by
    cases he : e.den env with
    | true =>
      refine covers_ok (d := y) hc.1 (fun x hx => ?_) (hd.1 he)
      rcases List.mem_cons.1 hx with rfl | hx
      · exact he
      · exact hp x hx
    | false =>
      refine covers_ok (d := n) hc.2 (fun x hx => ?_) (hd.2 he)
      rcases List.mem_cons.1 hx with rfl | hx
      · exact he
      · exact hp x hx
noncomputable def resE : Rs V → Option BE
  | .ok (.b e) _ => some e
  | _ => none
theorem rel_nil (env : Nat → Int) (w : World) : Rel env w.heap.size (fun _ => none) .nil w :=
  ⟨fun _ _ => rfl, (fun b ob h => by cases h), (fun b b' ob ob' pl pl' h => by cases h), Nat.le_refl _⟩
/-- What a run of the VM answers in each case, the model's call answers. -/
theorem tree_calls {P : Program} {cx : Cx} (hT : TabOk P cx) (hm : P.follows .mixedOrders = true) (hF : FuOk P chkDraw cx) {fuel : Nat} {f : FuncId} {args : List V} {h : Tr Ob} {nx : Nat} (hnx : RO ≤ nx) {env : Nat → Int} {d : DT}
    (hcov : Covers (fun pc => resE (evCall { cx with pc := pc } fuel f args (.mk h nx .off))) d []) (hd : d.holds env) {M : Mp} {w : World} (hr : Rel env w.heap.size M h w) {args' : Array Value} (ha : VRs env M args args'.toList) :
    Calls P f args' w fun e w' => e = .returned (.bool true) ∧ Below w.heap.size w w' := by
  obtain ⟨pc, b, hp, hrun, hb⟩ := covers_ok hcov (fun x hx => by cases hx) hd
  cases hx : evCall { cx with pc := pc } fuel f args (.mk h nx .off) with
  | bad => rw [hx] at hrun; cases hrun
  | ok v σ =>
    rw [hx] at hrun
    cases σ with
    | mk h' nx' lg' =>
      have hs : CallOk env w.heap.size P (evCall { cx with pc := pc } fuel) := vm_snd (cx := { cx with pc := pc }) hT hp hm hF fuel
      refine (hs f args h nx .off v h' nx' lg' hx M w args' hr hnx ha).2.mono fun e w' he => ?_
      cases e with
      | returned x =>
        obtain ⟨M', q1, q2, q3, q4, q5⟩ := he
        cases q3 with
        | b e => cases hrun; exact ⟨by rw [hb], q4⟩
        | _ => cases hrun
      | panicked _ => exact he.elim
      | outgrown => exact he.elim
/-- A call without arguments whose run needs no number. -/
theorem sum_ok {P : Program} {cx : Cx} (hT : TabOk P cx) (hm : P.follows .mixedOrders = true) (hF : FuOk P chkDraw cx) (hpc : cx.pc = []) {fuel : Nat} {f : FuncId} {nx : Nat} (hnx : RO ≤ nx) (hrun : resE (evCall cx fuel f [] (.mk .nil nx .off)) = some (.c true))
    (hf : ∃ fn c, P.funcs[f]? = some fn ∧ fn.body = some c ∧ fn.name ≠ "runtime.NumGoroutine") : SumOk P f true := by
  refine ⟨hf, fun w => ?_⟩
  cases cx with
  | mk ty fu pc =>
    cases hpc
    exact tree_calls (cx := ⟨ty, fu, []⟩) hT hm hF hnx (env := fun _ => 0) (d := .leaf (.c true)) hrun rfl (rel_nil _ w) .nil
theorem cov_leaf {run : List (BE × Bool) → Option BE} {pc : List (BE × Bool)} {b : BE} (h : run pc = some b) : Covers run (.leaf b) pc := h
theorem cov_out {run : List (BE × Bool) → Option BE} {pc : List (BE × Bool)} : Covers run .out pc := trivial
theorem cov_fork {run : List (BE × Bool) → Option BE} {pc : List (BE × Bool)} {e : BE} {y n : DT} (h1 : Covers run y ((e, true) :: pc)) (h2 : Covers run n ((e, false) :: pc)) : Covers run (.fork e y n) pc := ⟨h1, h2⟩
theorem holds_true {env : Nat → Int} : (DT.leaf (.c true)).holds env := rfl
theorem holds_leaf {env : Nat → Int} {b : BE} (h : b.den env = true) : (DT.leaf b).holds env := h
theorem holds_out {env : Nat → Int} (h : False) : DT.out.holds env := h
theorem holds_fork {env : Nat → Int} {e : BE} {y n : DT} (h1 : e.den env = true → y.holds env) (h2 : e.den env = false → n.holds env) : (DT.fork e y n).holds env := ⟨h1, h2⟩
end Go.Vm
