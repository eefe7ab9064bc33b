/- VM: its code is the model's: regions in the text's order, control, calls. -/
import Derived.Test.YtpbnbgjclalpeaaDoorVmStep
import Derived.Orders
set_option linter.unusedVariables false
set_option linter.unusedSimpArgs false
namespace Go.Vm
open Go.RowKit

/-- What is checked of a function's code once: each operation's temporary is there. -/
noncomputable def okDst (n : Nat) (d : Option Tmp) : Bool := Option.rec true (fun d => Nat.ble (Nat.succ d) n) d
noncomputable def okOps (n : Nat) (l : List Oper) : Bool := List.rec true (fun o _ ih => Bool.rec false ih (okDst n o.dst)) l
/-- chk: what is asked of a region that is drawn. -/
noncomputable def okCode (chk : List Oper → Bool) (n : Nat) : Code → Bool
  | .region _ ops draw => okOps n ops.toList && (!draw || chk ops.toList)
  | .seq a b => okCode chk n a && okCode chk n b
  | .cond _ a b => okCode chk n a && okCode chk n b
  | .block _ b => okCode chk n b
  | .loop b => okCode chk n b
  | .scope b => okCode chk n b
  | _ => true

section
variable {env : Nat → Int} {n0 : Nat} {P : Program} {cx : Cx}
/-- How a state of the VM stands to the model's. -/
structure At (env : Nat → Int) (n0 : Nat) (M : Mp) (h : Tr Ob) (nx : Nat) (t : Tm) (w : World) (a : Go.Act) : Prop where
  rel : Rel env n0 M h w
  tm : TmR env M t a.tmps
  ro : RO ≤ nx
/-- What is known behind. -/
structure Bhd (n0 : Nat) (M M' : Mp) (a a' : Go.Act) (w w' : World) : Prop where
  le : M.le M'
  dfr : a'.defers = a.defers
  sz : a'.tmps.size = a.tmps.size
  bel : Below n0 w w'
theorem Bhd.refl (M : Mp) (a : Go.Act) (w : World) : Bhd n0 M M a a w w := ⟨M.le_refl, rfl, rfl, Below.refl _ _⟩
theorem Bhd.trans {M M' M'' : Mp} {a a' a'' : Go.Act} {w w' w'' : World} (h : Bhd n0 M M' a a' w w') (k : Bhd n0 M' M'' a' a'' w' w'') : Bhd n0 M M'' a a'' w w'' :=
  ⟨Mp.le_trans h.le k.le, k.dfr.trans h.dfr, k.sz.trans h.sz, h.bel.trans k.bel⟩
abbrev Post := Exit → Go.Act → World → Prop
def PostK (env : Nat → Int) (n0 : Nat) (M : Mp) (a : Go.Act) (w : World) (K : Go.Act → World → Prop) (t : Tm) : St → Prop
  | .mk h nx _ => ∀ M' a' w', At env n0 M' h nx t w' a' → Bhd n0 M M' a a' w w' → K a' w'
def PostR (env : Nat → Int) (n0 : Nat) (M : Mp) (a : Go.Act) (w : World) (Q : Post) : R → Prop
  | .bad => False
  | .nm t σ => PostK env n0 M a w (Q .normal) t σ
  | .ex n t σ => PostK env n0 M a w (Q (.exit n)) t σ
  | .rt t σ => PostK env n0 M a w (Q .ret) t σ
theorem PostK.later {M M' : Mp} {a a' : Go.Act} {w w' : World} {K : Go.Act → World → Prop} {t : Tm} {σ : St} (h : PostK env n0 M a w K t σ) (b : Bhd n0 M M' a a' w w') : PostK env n0 M' a' w' K t σ := by
  cases σ
  exact fun M'' a'' w'' h1 h2 => h M'' a'' w'' h1 (b.trans h2)
theorem PostR.later {M M' : Mp} {a a' : Go.Act} {w w' : World} {Q : Post} {r : R} (h : PostR env n0 M a w Q r) (b : Bhd n0 M M' a a' w w') : PostR env n0 M' a' w' Q r := by
  cases r with
  | bad => exact h
  | nm t σ => exact PostK.later h b
  | ex n t σ => exact PostK.later h b
  | rt t σ => exact PostK.later h b
theorem Act.put_size (a : Go.Act) (d : Option Tmp) (v : Value) : (a.put d v).tmps.size = a.tmps.size := by
  cases d <;> simp [Go.Act.put]
theorem Act.put_defers (a : Go.Act) (d : Option Tmp) (v : Value) : (a.put d v).defers = a.defers := by
  cases d <;> rfl
theorem bhd_put {M M' : Mp} {a : Go.Act} {w w' : World} (hM : M.le M') (hb : Below n0 w w') (d : Option Tmp) (v : Value) : Bhd n0 M M' a (a.put d v) w w' :=
  ⟨hM, Act.put_defers _ _ _, Act.put_size _ _ _, hb⟩

/-- What a call of the VM says of the model's. -/
def CallOk (env : Nat → Int) (n0 : Nat) (P : Program) (call : CallT) : Prop :=
  ∀ f args h nx lg v h' nx' lg', call f args (.mk h nx lg) = .ok v (.mk h' nx' lg') → ∀ M w args', Rel env n0 M h w → RO ≤ nx → VRs env M args args'.toList →
    (∃ fn c, P.funcs[f]? = some fn ∧ fn.body = some c ∧ fn.name ≠ "runtime.NumGoroutine") ∧
    Calls P f args' w fun e w' => match e with
      | .returned x => ∃ M', M.le M' ∧ Rel env n0 M' h' w' ∧ VR env M' v x ∧ Below n0 w w' ∧ RO ≤ nx'
      | _ => False
theorem dst_lt {n : Nat} {d : Option Tmp} (h : okDst n d = true) : ∀ k, d = some k → k < n := by
  intro k e
  subst e
  exact Nat.le_of_ble_eq_true h
/-- One operation. -/
theorem act_snd (hT : TabOk P cx) (hp : PcOk env cx.pc) {call : CallT} (hc : CallOk env n0 P call) {M : Mp} {h : Tr Ob} {nx : Nat} {lg : Lg} {t : Tm} {w : World} {a : Go.Act} (s : At env n0 M h nx t w a) (o : Oper)
    (hd : okDst a.tmps.size o.dst = true) {k : Tm → St → R} {res : R} (hres : act call o.dst t (.mk h nx lg) k (vop o.op cx t) = res) (hnb : res ≠ .bad) {next : Go.Act → World → Prop} {Q : Post}
    (hk : ∀ t' h' nx' lg', k t' (.mk h' nx' lg') = res → ∀ M' w' x v, At env n0 M' h' nx' t' w' (a.put o.dst x) → t' = putT o.dst v t → Bhd n0 M M' a (a.put o.dst x) w w' → next (a.put o.dst x) w') : o.wp P a w next Q := by
  have hv := vop_ok hT hp s.rel s.tm o
  have hput : ∀ {M' : Mp} {h' : Tr Ob} {nx' : Nat} {w' : World} {v : V} {x : Value}, M.le M' → Rel env n0 M' h' w' → VR env M' v x → RO ≤ nx' → At env n0 M' h' nx' (putT o.dst v t) w' (a.put o.dst x) := by
    intro M' h' nx' w' v x hM hr hx hro
    exact ⟨hr, TmR.put (s.tm.mono hM) hx (dst_lt hd), hro⟩
  unfold Oper.wp
  cases hvo : vop o.op cx t with
  | bad n => rw [hvo] at hres; exact absurd hres.symm hnb
  | val v =>
    rw [hvo] at hv hres
    obtain ⟨x, h1, h2⟩ := hv
    rw [h1, Oper.upon_value]
    exact hk _ _ _ _ hres M w x v (hput M.le_refl s.rel h2 s.ro) rfl (bhd_put M.le_refl (Below.refl _ _) _ _)
  | pv p =>
    rw [hvo] at hv hres
    obtain ⟨s', h1, h2⟩ := hv
    have hres : aftP o.dst t k (p.run h nx lg) = res := hres
    cases hrun : p.run h nx lg with
    | bad => rw [hrun] at hres; exact absurd hres.symm hnb
    | ok v σ =>
      rw [hrun] at hres
      cases σ with
      | mk h' nx' lg' =>
        obtain ⟨M', w', x, q1, q2, q3, q4, q5, q6⟩ := h2 nx lg v h' nx' lg' s.ro hrun
        rw [h1, Sem.run_bind, q1, Result.andThen_ok, Sem.run_pure, Oper.upon_value]
        exact hk _ _ _ _ hres M' w' x v (hput q2 q3 q4 q6) rfl (bhd_put q2 q5 _ _)
  | pu p =>
    rw [hvo] at hv hres
    obtain ⟨s', h1, h2⟩ := hv
    have hres : aftU o.dst t k (p.run h nx lg) = res := hres
    cases hrun : p.run h nx lg with
    | bad => rw [hrun] at hres; exact absurd hres.symm hnb
    | ok v σ =>
      rw [hrun] at hres
      cases σ with
      | mk h' nx' lg' =>
        obtain ⟨M', w', x, q1, q2, q3, q4, q5, q6⟩ := h2 nx lg v h' nx' lg' s.ro hrun
        rw [h1, Sem.run_bind, q1, Result.andThen_ok, Sem.run_pure, Oper.upon_skip]
        exact hk _ _ _ _ hres M' w' undef undefV (hput q2 q3 undef_ok q6) rfl (bhd_put q2 q5 _ _)
  | call f args =>
    rw [hvo] at hv hres
    obtain ⟨args', h1, h2⟩ := hv
    have hres : aftP o.dst t k (call f args (.mk h nx lg)) = res := hres
    cases hrun : call f args (.mk h nx lg) with
    | bad => rw [hrun] at hres; exact absurd hres.symm hnb
    | ok v σ =>
      rw [hrun] at hres
      cases σ with
      | mk h' nx' lg' =>
        obtain ⟨⟨fn, c, f1, f2, f3⟩, hcalls⟩ := hc f args h nx lg v h' nx' lg' hrun M w args' s.rel s.ro h1
        rw [h2 fn c f1 f2 f3, Oper.upon_enter]
        refine Calls.mono hcalls fun e w' he => ?_
        cases e with
        | returned x =>
          obtain ⟨M', q2, q3, q4, q5, q6⟩ := he
          exact hk _ _ _ _ hres M' w' x v (hput q2 q3 q4 q6) rfl (bhd_put q2 q5 _ _)
        | panicked _ => exact he.elim
        | outgrown => exact he.elim
/-! ### guards -/
theorem dstOf_eq : ∀ (l : List Oper) (j : Nat), dstOf l j = (l[j]?).bind (·.dst)
  | [], _ => rfl
  | _ :: _, 0 => rfl
  | _ :: l, j + 1 => dstOf_eq l j
theorem wanted_ok (hp : PcOk env cx.pc) {M : Mp} {t : Tm} {a : Go.Act} (ht : TmR env M t a.tmps) (ops : Array Oper) (o : Oper) {c : Bool} (h : wanted o.guard ops.toList cx t = some c) : Region.wanted o (yielded ops a.tmps) = c := by
  obtain ⟨dst, op, ty, ps, af, g⟩ := o
  cases g with
  | none => cases h; rfl
  | some g =>
    obtain ⟨j, want⟩ := g
    have h : guardT ops.toList cx t j want = some c := h
    show (yielded ops a.tmps j == some want) = c
    unfold guardT at h
    rw [dstOf_eq, Array.getElem?_toList] at h
    unfold yielded
    cases hd : (ops[j]?).bind (·.dst) with
    | none => rw [hd] at h; cases h; rfl
    | some d =>
      rw [hd] at h
      have h : boolO (t.get d) cx want = some c := h
      have htd := ht d
      rw [Array.getD_eq_getD_getElem?] at htd
      simp only [Option.bind_some]
      cases htg : t.get d with
      | none =>
        rw [htg] at h htd
        cases h
        have htd : VR env M undefV ((a.tmps[d]?).getD undef) := htd
        cases hv : a.tmps[d]? with
        | none => rfl
        | some x =>
          rw [hv] at htd
          have htd : VR env M undefV x := htd
          cases htd; rfl
      | some v =>
        rw [htg] at h htd
        have htd : VR env M v ((a.tmps[d]?).getD undef) := htd
        cases hv : a.tmps[d]? with
        | none =>
          rw [hv] at htd
          have htd : VR env M v undef := htd
          cases htd
          cases h; rfl
        | some x =>
          rw [hv] at htd
          have htd : VR env M v x := htd
          cases htd with
          | b e =>
            have h : boolD (cx.dec e) want = some c := h
            cases hde : cx.dec e with
            | none => rw [hde] at h; cases h
            | some b =>
              rw [hde] at h
              rw [dec_ok hp hde]
              cases h
              cases b <;> cases want <;> rfl
          | _ => cases h; rfl
end
end Go.Vm
