/- VM: an evaluator of the model's code, and that what it answers the model answers (Step Ev Run Code). -/
import Derived.Test.YtfjnhdbbjggkmaaVmOp
import Derived.Orders
import Derived.Scope
set_option linter.unusedVariables false
set_option linter.unusedSimpArgs false
namespace Go.Vm
open Go.RowKit

/-! ### operands -/
section
variable {env : Nat → Int} {M : Mp}
theorem ofValues_ok {f : Value → Option V} (hf : ∀ x v, f x = some v → VR env M v x) : ∀ (l : List Value) (vs : List V), ofValues f l = some vs → VRs env M vs l
  | [], vs, h => by cases h; exact .nil
  | x :: l, vs, h => by
    simp only [ofValues] at h
    cases h1 : f x with
    | none => rw [h1] at h; cases h
    | some y =>
      cases h2 : ofValues f l with
      | none => rw [h1, h2] at h; cases h
      | some ys =>
        rw [h1, h2] at h; cases h
        exact .cons _ _ _ _ (hf x y h1) (ofValues_ok hf l ys h2)
theorem ofValueD_ok : ∀ (d : Nat) (x : Value) (v : V), ofValueD d x = some v → VR env M v x := by
  have str : ∀ (s : ByteArray), VR env M (.s (RL.ofList (s.data.toList.map (·.toNat)))) (.string s) := by
    intro s
    refine .s _ _ ?_ ?_
    · rw [bytesOf, RL.toList_ofList, List.map_map]
      have : (UInt8.ofNat ∘ fun x : UInt8 => x.toNat) = id := by funext x; simp
      rw [this]; simp
    · intro n hn
      rw [RL.toList_ofList] at hn
      obtain ⟨b, _, rfl⟩ := List.mem_map.1 hn
      exact b.toNat_lt
  intro d
  induction d with
  | zero =>
    intro x v h
    cases x <;> first
      | (cases h; done)
      | (cases h; exact .b' rfl)
      | (cases h; exact .i' rfl)
      | (cases h; exact str _)
      | (cases h; exact .ni)
      | (cases h; exact .nf)
      | skip
    · rename_i a; cases a <;> first | (cases h; done) | (cases h; exact .pn)
    · rename_i a l c; cases a <;> first | (cases h; done) | (cases h; exact .sn _ _)
    · rename_i a; cases a <;> first | (cases h; done) | (cases h; exact .mn)
  | succ d ih =>
    intro x v h
    cases x <;> first
      | (cases h; done)
      | (cases h; exact .b' rfl)
      | (cases h; exact .i' rfl)
      | (cases h; exact str _)
      | (cases h; exact .ni)
      | (cases h; exact .nf)
      | skip
    · rename_i a; cases a <;> first | (cases h; done) | (cases h; exact .pn)
    · rename_i a l c; cases a <;> first | (cases h; done) | (cases h; exact .sn _ _)
    · rename_i a; cases a <;> first | (cases h; done) | (cases h; exact .mn)
    · rename_i t x
      have h : (ofValueD d x).map (V.ifc t) = some v := h
      cases hx : ofValueD d x with
      | none => rw [hx] at h; cases h
      | some y => rw [hx] at h; cases h; exact .ifc _ _ _ (ih _ _ hx)
    · rename_i cs
      have h : (ofValues (ofValueD d) cs.toList).map V.agg = some v := h
      cases hx : ofValues (ofValueD d) cs.toList with
      | none => rw [hx] at h; cases h
      | some y => rw [hx] at h; cases h; exact .agg _ _ (ofValues_ok ih _ _ hx)
    · rename_i cs
      have h : (ofValues (ofValueD d) cs.toList).map V.tup = some v := h
      cases hx : ofValues (ofValueD d) cs.toList with
      | none => rw [hx] at h; cases h
      | some y => rw [hx] at h; cases h; exact .tup _ _ (ofValues_ok ih _ _ hx)
theorem ofValue_ok (x : Value) (v : V) (h : ofValue x = some v) : VR env M v x := by
  cases x <;> first
    | exact ofValueD_ok 8 _ v h
    | (cases h; exact .b' rfl)
    | (cases h; exact .i' rfl)
end

/-- The temporaries. -/
def TmR (env : Nat → Int) (M : Mp) (t : Tm) (tmps : Array Value) : Prop := ∀ i, VR env M (orU (t.get i)) (tmps.getD i undef)
section
variable {env : Nat → Int} {M : Mp} {t : Tm} {a : Go.Act}
theorem undef_ok : VR env M undefV undef := .tup [] #[] .nil
theorem ev_ok (ht : TmR env M t a.tmps) {x : Operand} {v : V} (h : Tm.ev x t = some v) : VR env M v (a.eval x) := by
  cases x with
  | tmp i => cases h; exact ht i
  | const c => exact ofValue_ok c v h
  | global g => cases h
  | func f => cases h; exact .fn f [] [] #[] #[] .nil .nil
theorem evs_ok (ht : TmR env M t a.tmps) : ∀ (l : List Operand) (vs : List V), evs t l = some vs → VRs env M vs (l.map a.eval)
  | [], vs, h => by cases h; exact .nil
  | x :: l, vs, h => by
    simp only [evs] at h
    cases h1 : Tm.ev x t with
    | none => rw [h1] at h; cases h
    | some y =>
      cases h2 : evs t l with
      | none => rw [h1, h2] at h; cases h
      | some ys =>
        rw [h1, h2] at h; cases h
        exact .cons _ _ _ _ (ev_ok ht h1) (evs_ok ht l ys h2)
theorem evp_ok (ht : TmR env M t a.tmps) : ∀ (l : List (Nat × Operand)) (vs : List (Nat × V)), evp t l = some vs →
    vs.map (·.1) = (l.map fun p => (p.1, a.eval p.2)).map (·.1) ∧ VRs env M (vs.map (·.2)) ((l.map fun p => (p.1, a.eval p.2)).map (·.2))
  | [], vs, h => by cases h; exact ⟨rfl, .nil⟩
  | x :: l, vs, h => by
    simp only [evp] at h
    cases h1 : Tm.ev x.2 t with
    | none => rw [h1] at h; cases h
    | some y =>
      cases h2 : evp t l with
      | none => rw [h1, h2] at h; cases h
      | some ys =>
        rw [h1, h2] at h; cases h
        obtain ⟨i1, i2⟩ := evp_ok ht l ys h2
        exact ⟨by simp only [List.map_cons, i1], .cons _ _ _ _ (ev_ok ht h1) i2⟩
theorem evo_ok (ht : TmR env M t a.tmps) (x : Option Operand) (v : Option V) (h : evo t x = some v) : OptR env M v (x.map a.eval) := by
  cases x with
  | none => cases h; trivial
  | some x =>
    simp only [evo] at h
    cases h1 : Tm.ev x t with
    | none => rw [h1] at h; cases h
    | some y => rw [h1] at h; cases h; exact ev_ok ht h1
theorem TmR.mono {M' : Mp} (hM : M.le M') {tmps : Array Value} (h : TmR env M t tmps) : TmR env M' t tmps := fun i => (h i).mono hM
theorem TmR.put {dst : Option Tmp} {v : V} {x : Value} (h : TmR env M t a.tmps) (hv : VR env M v x) (hd : ∀ d, dst = some d → d < a.tmps.size) : TmR env M (putT dst v t) (a.put dst x).tmps := by
  cases dst with
  | none => exact h
  | some d =>
    intro i
    show VR env M (orU ((t.set d v).get i)) ((a.tmps.setIfInBounds d x).getD i undef)
    rw [Tr.get_set, Array.getD_eq_getD_getElem?, Array.getElem?_setIfInBounds]
    by_cases hi : i = d
    · subst hi
      rw [if_pos rfl, if_pos rfl, if_pos (hd i rfl)]
      exact hv
    · rw [if_neg hi, if_neg (fun e => hi e.symm)]
      have := h i
      rw [Array.getD_eq_getD_getElem?] at this
      exact this
end
/-- What an operation comes to, and what the model makes of it. -/
def ActR (env : Nat → Int) (n0 : Old) (P : Program) (M : Mp) (h : Tr Ob) (w : World) (s : Sem Next) : Act → Prop
  | .bad _ => True
  | .val v => ∃ x, s.run P w = .ok (.value x) w ∧ VR env M v x
  | .pv p => ∃ s', s = (do pure (.value (← s'))) ∧ SndV env n0 P M h w p s'
  | .pu p => ∃ s' : Sem Unit, s = (do s'; pure .skip) ∧ SndU env n0 P M h w p s'
  | .call f args => ∃ args', VRs env M args args'.toList ∧ ∀ fn c, P.funcs[f]? = some fn → fn.body = some c → fn.name ≠ "runtime.NumGoroutine" → s.run P w = .ok (.enter f args') w
section
variable {env : Nat → Int} {n0 : Old} {P : Program} {M : Mp} {h : Tr Ob} {w : World} {cx : Cx} {t : Tm} {a : Go.Act}
theorem vmin_inv {o : IOp} : ∀ {l : List V} {v : V}, vmin o l = some v → (∃ x, l = [x] ∧ v = x) ∨ (∃ k a b, l = [.i k a, .i k b] ∧ v = .i k (mkBin a o k b))
  | [], _, h => by cases h
  | [x], _, h => by cases h; exact .inl ⟨x, rfl, rfl⟩
  | [x, y], v, h => by
    replace h : vmin2 x y o = some v := h
    cases x with
    | i k a =>
      cases y with
      | i l b =>
        replace h : (match keq k l with | true => some (V.i k (mkBin a o k b)) | false => none) = some v := h
        cases hk : keq k l with
        | false => rw [hk] at h; cases h
        | true =>
          rw [hk] at h
          have := (keq_eq k l).1 hk
          subst this
          cases h
          exact .inr ⟨k, a, b, rfl, rfl⟩
      | _ => cases h
    | _ => cases h
  | _ :: _ :: _ :: _, _, h => by cases h
theorem actPv {p : Pr V} {s s' : Sem Next} {q : Sem Value} (hs : s = s') (hq : s' = (do pure (.value (← q)))) (h1 : SndV env n0 P M h w p q) : ActR env n0 P M h w s (.pv p) := ⟨q, hs.trans hq, h1⟩
theorem vop0_ok (hT : TabOk P cx) (hp : PcOk env cx.pc) (r : Rel env n0 M h w) (ht : TmR env M t a.tmps) (o : Oper) : ActR env n0 P M h w (execOp a.eval o) (vop0 o.op cx t) := by
  have one : ∀ (x : Operand) (k : V → Act) (s : Sem Next), (∀ v, Tm.ev x t = some v → VR env M v (a.eval x) → ActR env n0 P M h w s (k v)) → ActR env n0 P M h w s (o1 (Tm.ev x t) k) := by
    intro x k s hk
    cases hx : Tm.ev x t with
    | none => trivial
    | some v => exact hk v hx (ev_ok ht hx)
  have mv : ∀ (x : Operand) (s : Sem Next), s = pure (.value (a.eval x)) → ActR env n0 P M h w s (o1 (Tm.ev x t) retX) := by
    intro x s hs
    subst hs
    exact one x _ _ fun v _ hv => ⟨_, rfl, hv⟩
  obtain ⟨dst, op, ty, ps, af, g⟩ := o
  cases op with
  | move x => exact mv x _ rfl
  | assign x => exact mv x _ rfl
  | pick c x y =>
    refine one c _ _ fun v _ hv => ?_
    generalize hec : a.eval c = c' at hv
    cases hv with
    | b e =>
      show ActR env n0 P M h w _ (pickD (cx.dec e) (Tm.ev x t) (Tm.ev y t))
      cases hd : cx.dec e with
      | none => trivial
      | some b =>
        have := dec_ok hp hd
        have hev : execOp a.eval ⟨dst, .pick c x y, ty, ps, af, g⟩ = (do pure (.value (if ← asBool (a.eval c) then a.eval x else a.eval y))) := rfl
        cases b with
        | true => exact mv x _ (by rw [hev, hec, this]; rfl)
        | false => exact mv y _ (by rw [hev, hec, this]; rfl)
    | _ => trivial
  | alloc e => exact ⟨_, rfl, alloc_snd hT r e⟩
  | box e x => exact one x _ _ fun v _ hv => ⟨_, rfl, box_snd r hv e⟩
  | build bt parts =>
    show ActR env n0 P M h w _ (op1 (evp t parts.toList) fun ps => vx (vbuild (cx.ty.get bt) cx ps))
    cases he : evp t parts.toList with
    | none => trivial
    | some vs =>
      obtain ⟨h1, h2⟩ := evp_ok ht _ _ he
      exact ⟨_, rfl, build_snd hT r (by rw [h1]; simp) (by simpa using h2) bt⟩
  | buildSlice bt len parts =>
    show ActR env n0 P M h w _ (op1 (evp t parts.toList) fun ps => vx (vbuildSlice (tk cx bt) cx len ps))
    cases he : evp t parts.toList with
    | none => trivial
    | some vs =>
      obtain ⟨h1, h2⟩ := evp_ok ht _ _ he
      exact ⟨_, rfl, buildSlice_snd hT r (by rw [h1]; simp) (by simpa using h2) bt len⟩
  | load lt x => exact one x _ _ fun v _ hv => ⟨_, rfl, load_snd hT r hv lt⟩
  | store lt x y => exact one x _ _ fun v _ hv => one y _ _ fun v2 _ hv2 => ⟨_, rfl, store_snd hT r hv hv2 lt⟩
  | nilCheck x =>
    refine one x _ _ fun v _ hv => ?_
    show ActR env n0 P M h w (execOp a.eval ⟨dst, .nilCheck x, ty, ps, af, g⟩) (nilCk v)
    generalize hx : a.eval x = x' at hv
    cases hv with
    | p b o pl hM =>
      refine ⟨_, ?_, .p b o pl hM⟩
      simp only [execOp, hx]; rfl
    | _ => trivial
  | binOp op bt x y yt => exact one x _ _ fun v _ hv => one y _ _ fun v2 _ hv2 => ⟨_, rfl, binG_snd hT hp r hv hv2 op bt x y⟩
  | unOp op ut x => exact one x _ _ fun v _ hv => ⟨_, rfl, un_snd r hv op⟩
  | convert src dd x => exact one x _ _ fun v _ hv => ⟨_, rfl, convert_snd hT r hv src dd⟩
  | makeInterface it x =>
    refine one x _ _ fun v _ hv => ?_
    show ActR env n0 P M h w (do pure (.value (← Instr.makeInterface it (a.eval x)))) (ifaceA (plainK (tk cx it)) (.ifc it v))
    have hk := tk_ok hT it
    have fin : ∀ d, P.underlying it = some d → (∀ ms, d ≠ .interface ms) → ActR env n0 P M h w (do pure (.value (← Instr.makeInterface it (a.eval x)))) (.val (.ifc it v)) := by
      intro d hd hne
      refine ⟨.iface it (a.eval x), ?_, .ifc _ _ _ hv⟩
      simp only [Instr.makeInterface, Sem.run_bind, run_und hd, Result.andThen_ok]
      cases d <;> first
        | rfl
        | exact absurd rfl (hne _)
    cases hkk : tk cx it with
    | iface e => trivial
    | other => trivial
    | func => rw [hkk] at hk; obtain ⟨_, _, _, hd⟩ := hk; exact fin _ hd (by simp)
    | struct fs => rw [hkk] at hk; obtain ⟨_, hd, _⟩ := hk; exact fin _ hd (by simp)
    | _ => rw [hkk] at hk; exact fin _ hk (by simp)
  | makeFunc f xs ys =>
    cases f with
    | func f =>
      show ActR env n0 P M h w _ (op1 (evs t xs.toList) fun x => op1 (evs t ys.toList) fun y => retX (.fn f x y))
      cases hx : evs t xs.toList with
      | none => trivial
      | some vx =>
        cases hy : evs t ys.toList with
        | none => trivial
        | some vy => exact ⟨_, rfl, .fn f vx vy _ _ (by simpa using evs_ok ht _ _ hx) (by simpa using evs_ok ht _ _ hy)⟩
    | _ => trivial
  | makeMap mt rv =>
    cases rv with
    | none => exact ⟨_, rfl, makeMap_snd r mt⟩
    | some x => trivial
  | makeSlice st l c => exact one l _ _ fun v _ hv => one c _ _ fun v2 _ hv2 => ⟨_, rfl, makeSlice_snd hT r hv hv2 st⟩
  | slice st x lo hi mx =>
    refine one x _ _ fun v _ hv => ?_
    show ActR env n0 P M h w _ (op1 (evo t lo) fun lo => op1 (evo t hi) fun hi => op1 (evo t mx) fun mx => vx (mxIf (mxOk mx hi) (vslice (tk cx st) cx v lo hi mx)))
    cases h1 : evo t lo with
    | none => trivial
    | some l =>
      cases h2 : evo t hi with
      | none => trivial
      | some hh =>
        cases h3 : evo t mx with
        | none => trivial
        | some mm =>
          show ActR env n0 P M h w _ (vx (mxIf (mxOk mm hh) (vslice (tk cx st) cx v l hh mm)))
          cases hmx : mxOk mm hh with
          | false => exact ⟨Instr.sliceAt st (a.eval x) (lo.map a.eval) (hi.map a.eval) (mx.map a.eval), rfl, Snd.bad⟩
          | true =>
            refine ⟨_, rfl, slice_snd hT r hv st (evo_ok ht _ _ h1) (evo_ok ht _ _ h2) (evo_ok ht _ _ h3) ?_⟩
            intro hm
            cases mm with
            | none => cases hm
            | some m => cases hh with
              | none => cases hmx
              | some _ => rfl
  | fieldAddr st x f => exact one x _ _ fun v _ hv => ⟨_, rfl, fieldAddr_snd hT r hv st f⟩
  | field st x f => exact one x _ _ fun v _ hv => ⟨_, rfl, field_snd hT r hv st f⟩
  | indexAddr st x i => exact one x _ _ fun v _ hv => one i _ _ fun v2 _ hv2 => ⟨_, rfl, indexAddr_snd hT r hv hv2 st⟩
  | lookup st x i ok => exact one x _ _ fun v _ hv => one i _ _ fun v2 _ hv2 => ⟨_, rfl, lookup_snd hT r hv hv2 st ok⟩
  | mapUpdate st m k x => exact one m _ _ fun v _ hv => one k _ _ fun v2 _ hv2 => one x _ _ fun v3 _ hv3 => ⟨_, rfl, mapUpdate_snd hT r hv hv2 hv3 st⟩
  | insert st m k x => exact one m _ _ fun v _ hv => one k _ _ fun v2 _ hv2 => one x _ _ fun v3 _ hv3 => ⟨_, rfl, mapUpdate_snd hT r hv hv2 hv3 st⟩
  | extract x i =>
    refine one x _ _ fun v _ hv => ?_
    show ActR env n0 P M h w (do pure (.value (← Instr.extract (a.eval x) i))) (extrV v i)
    generalize hx : a.eval x = x' at hv
    cases hv with
    | tup l c hc =>
      show ActR env n0 P M h w _ (match nth l i with | some v => .val v | none => .bad 92)
      rw [nth_eq]
      cases hn : l[i]? with
      | none => trivial
      | some v =>
        obtain ⟨y, y1, y2⟩ := hc.get i v hn
        refine ⟨y, ?_, y2⟩
        have y1' : c[i]? = some y := by simpa using y1
        simp only [Instr.extract, y1', Sem.run_bind, Sem.run_pure, Result.andThen_ok]
    | _ => trivial
  | call c =>
    obtain ⟨callee, args, tys⟩ := c
    show ActR env n0 P M h w _ (op1 (evs t args.toList) fun as => calleeV callee tys.toList as cx t)
    cases he : evs t args.toList with
    | none => trivial
    | some vs =>
      have hvs := evs_ok ht _ _ he
      have hml : (args.map a.eval).toList = args.toList.map a.eval := by simp
      rw [← hml] at hvs
      show ActR env n0 P M h w _ (calleeV callee tys.toList vs cx t)
      cases callee with
      | value f =>
        refine one f _ _ fun v _ hv => ?_
        generalize hx : a.eval f = x' at hv
        cases hv with
        | fn g first cap first' cap' h1 h2 =>
          show ActR env n0 P M h w _ (.call g (RL.app1 first (RL.app1 vs cap)))
          refine ⟨first' ++ args.map a.eval ++ cap', ?_, ?_⟩
          · rw [RL.app1_eq, RL.app1_eq, Array.toList_append, Array.toList_append, List.append_assoc]
            exact h1.append (hvs.append h2)
          · intro fn c hf hb hn
            have hb' : fn.body.isNone = false := by rw [hb]; rfl
            have hn' : (fn.name == "runtime.NumGoroutine") = false := by simpa using hn
            simp only [execOp, resolve, hx, Deferred.ofValue, pure_bind, invoke, callFunc, Sem.run_bind, run_program, Result.andThen_ok, hf, hn', hb', Bool.false_eq_true, if_false, Sem.run_pure]
        | _ => trivial
      | invoke rv nm => trivial
      | builtin b =>
        have two : ∀ {x y : V}, VRs env M [x, y] (args.map a.eval).toList → ∃ x' y', args.map a.eval = #[x', y'] ∧ VR env M x x' ∧ VR env M y y' := by
          intro x y hh
          generalize hl : (args.map a.eval).toList = l at hh
          cases hh with
          | cons _ x' _ _ h1 h2 => cases h2 with
            | cons _ y' _ _ h3 h4 => cases h4; exact ⟨x', y', by rw [← Array.toList_inj]; rw [hl], h1, h3⟩
        have one1 : ∀ {x : V}, VRs env M [x] (args.map a.eval).toList → ∃ x', args.map a.eval = #[x'] ∧ VR env M x x' := by
          intro x hh
          generalize hl : (args.map a.eval).toList = l at hh
          cases hh with
          | cons _ x' _ _ h1 h2 => cases h2; exact ⟨x', by rw [← Array.toList_inj]; rw [hl], h1⟩
        cases b with
        | append =>
          match hty : tys.toList, vs, hvs with
          | s :: x :: rest, [p, q], hvs =>
            obtain ⟨p', q', e1, e2, e3⟩ := two hvs
            refine ⟨Builtin.append_ tys ty #[p', q'], ?_, append_snd hT r e2 e3 hty ty⟩
            rw [← e1]; rfl
          | [], _, _ => trivial
          | [_], _, _ => trivial
          | _ :: _ :: _, [], _ => trivial
          | _ :: _ :: _, [_], _ => trivial
          | _ :: _ :: _, _ :: _ :: _ :: _, _ => trivial
        | copy =>
          match hty : tys.toList, vs, hvs with
          | s :: rest, [p, q], hvs =>
            obtain ⟨p', q', e1, e2, e3⟩ := two hvs
            refine ⟨Builtin.copy_ tys ty #[p', q'], ?_, copy_snd hT r e2 e3 hty ty⟩
            rw [← e1]; rfl
          | [], _, _ => trivial
          | _ :: _, [], _ => trivial
          | _ :: _, [_], _ => trivial
          | _ :: _, _ :: _ :: _ :: _, _ => trivial
        | len =>
          match hty : tys.toList, vs, hvs with
          | s :: rest, [p], hvs =>
            obtain ⟨p', e1, e2⟩ := one1 hvs
            refine ⟨Builtin.len_ tys ty #[p'], ?_, len_snd hT r e2 hty ty⟩
            rw [← e1]; rfl
          | [], _, _ => trivial
          | _ :: _, [], _ => trivial
          | _ :: _, _ :: _ :: _, _ => trivial
        | cap =>
          match hty : tys.toList, vs, hvs with
          | s :: rest, [p], hvs =>
            obtain ⟨p', e1, e2⟩ := one1 hvs
            refine ⟨Builtin.cap_ tys ty #[p'], ?_, cap_snd hT r e2 hty ty⟩
            rw [← e1]; rfl
          | [], _, _ => trivial
          | _ :: _, [], _ => trivial
          | _ :: _, _ :: _ :: _, _ => trivial
        | delete =>
          match hty : tys.toList, vs, hvs with
          | s :: rest, [p, q], hvs =>
            obtain ⟨p', q', e1, e2, e3⟩ := two hvs
            refine ⟨Builtin.delete_ tys ty #[p', q'], ?_, delete_snd hT r e2 e3 hty ty⟩
            rw [← e1]; rfl
          | [], _, _ => trivial
          | _ :: _, [], _ => trivial
          | _ :: _, [_], _ => trivial
          | _ :: _, _ :: _ :: _ :: _, _ => trivial
        | clear =>
          match hty : tys.toList, vs, hvs with
          | s :: rest, [p], hvs =>
            obtain ⟨p', e1, e2⟩ := one1 hvs
            refine ⟨Builtin.clear_ tys ty #[p'], ?_, clear_snd hT r e2 hty ty⟩
            rw [← e1]; rfl
          | [], _, _ => trivial
          | _ :: _, [], _ => trivial
          | _ :: _, _ :: _ :: _, _ => trivial
        | min =>
          show ActR env n0 P M h w _ (o1 (vmin .min vs) retX)
          cases hvm : vmin .min vs with
          | none => trivial
          | some v =>
            show ActR env n0 P M h w (do pure (.value (← Builtin.min_ tys ty (args.map a.eval)))) (.val v)
            rcases vmin_inv hvm with ⟨x, rfl, rfl⟩ | ⟨k, x, y, rfl, rfl⟩
            · obtain ⟨p', e1, e2⟩ := one1 hvs
              exact ⟨p', by rw [e1]; rfl, e2⟩
            · obtain ⟨p', q', e1, e2, e3⟩ := two hvs
              cases e2; cases e3
              refine ⟨.int k (if y.den env < x.den env then y.den env else x.den env), ?_, VR.i' ?_⟩
              · rw [e1]; rfl
              · rw [mkBin_den]
                show (match iltb (y.den env) (x.den env) with | true => _ | false => _) = _
                rw [iltb_eq]
                by_cases hlt : y.den env < x.den env
                · rw [if_pos hlt, decide_eq_true hlt]
                · rw [if_neg hlt, decide_eq_false hlt]
        | max =>
          show ActR env n0 P M h w _ (o1 (vmin .max vs) retX)
          cases hvm : vmin .max vs with
          | none => trivial
          | some v =>
            show ActR env n0 P M h w (do pure (.value (← Builtin.max_ tys ty (args.map a.eval)))) (.val v)
            rcases vmin_inv hvm with ⟨x, rfl, rfl⟩ | ⟨k, x, y, rfl, rfl⟩
            · obtain ⟨p', e1, e2⟩ := one1 hvs
              exact ⟨p', by rw [e1]; rfl, e2⟩
            · obtain ⟨p', q', e1, e2, e3⟩ := two hvs
              cases e2; cases e3
              refine ⟨.int k (if y.den env > x.den env then y.den env else x.den env), ?_, VR.i' ?_⟩
              · rw [e1]; rfl
              · rw [mkBin_den]
                show (match iltb (x.den env) (y.den env) with | true => _ | false => _) = _
                rw [iltb_eq]
                by_cases hlt : x.den env < y.den env
                · rw [if_pos hlt, decide_eq_true hlt]
                · rw [if_neg hlt, decide_eq_false hlt]
        | _ => trivial
  | _ => trivial
theorem valOf_ok : ∀ {pc : List (BE × Bool)} (_ : PcOk env pc) {e : IE} {n : Int}, valOf pc e = some n → e.den env = n := by
  intro pc
  induction pc with
  | nil => intro _ e n h; cases h
  | cons x pc ih =>
    intro hp e n h
    have rest : valOf pc e = some n → e.den env = n := ih fun y hy => hp y (List.mem_cons_of_mem _ hy)
    have hx := hp x List.mem_cons_self
    obtain ⟨b, c⟩ := x
    cases b with
    | eq a d =>
      cases d with
      | c m =>
        cases c with
        | true =>
          have h : (match IE.beq a e with | true => some m | false => valOf pc e) = some n := h
          cases hb : IE.beq a e with
          | false => rw [hb] at h; exact rest h
          | true =>
            rw [hb] at h
            cases h
            rw [← IE.beq_eq a e hb]
            have hx : ieqb (a.den env) n = true := hx
            rw [ieqb_eq] at hx
            exact (beq_iff_eq (α := Int)).1 hx
        | false => exact rest h
      | _ => exact rest h
    | _ => exact rest h
theorem nrmV_ok {pc : List (BE × Bool)} (hp : PcOk env pc) {v : V} {x : Value} (hv : VR env M v x) : VR env M (nrmV v pc) x := by
  cases hv with
  | i k e =>
    have hi : VR env M (nrmI k e (valOf pc e)) (.int k (e.den env)) := by
      cases h : valOf pc e with
      | none => exact .i k e
      | some n => exact VR.i' (valOf_ok hp h).symm
    cases e with
    | c n => exact .i k (.c n)
    | _ => exact hi
  | b e =>
    show VR env M (nrmB e (decE e pc)) _
    cases h : decE e pc with
    | none => exact .b e
    | some b => exact VR.b' (dec_ok (cx := { ty := .nil, fu := .nil, pc := pc }) hp h).symm
  | s r s h1 h2 => exact .s r s h1 h2
  | pn => exact .pn
  | p b o pl e => exact .p b o pl e
  | sn l c => exact .sn l c
  | sl b o l c c' pl a e h1 h2 h3 h4 => exact .sl b o l c c' pl a e h1 h2 h3 h4
  | mn => exact .mn
  | m r pl e => exact .m r pl e
  | fn f a c a' c' h1 h2 => exact .fn f a c a' c' h1 h2
  | nf => exact .nf
  | ni => exact .ni
  | ifc t x x' h => exact .ifc t x x' h
  | agg l c h => exact .agg l c h
  | tup l c h => exact .tup l c h
theorem nrmP_run (pc : List (BE × Bool)) (p : Pr V) : ∀ h nx lg, (nrmP pc p).run h nx lg = Rs.rec .bad (fun v σ => .ok (nrmV v pc) σ) (p.run h nx lg) := by
  have row : ∀ (o : Option Ob) (k k' : TypeId → Nat → Bool → RL V → Rs V), (∀ a b c d, k' a b c d = Rs.rec .bad (fun v σ => .ok (nrmV v pc) σ) (k a b c d)) →
      asRow .bad k' o = Rs.rec .bad (fun v σ => .ok (nrmV v pc) σ) (asRow .bad k o) := by
    intro o k k' hk
    cases o with
    | none => rfl
    | some o =>
      cases o with
      | map es => rfl
      | cells el es ex live cs =>
        cases live with
        | false => rfl
        | true => exact hk el es ex cs
  have mp : ∀ (o : Option Ob) (k k' : List (V × V) → Rs V), (∀ a, k' a = Rs.rec .bad (fun v σ => .ok (nrmV v pc) σ) (k a)) →
      asMap .bad k' o = Rs.rec .bad (fun v σ => .ok (nrmV v pc) σ) (asMap .bad k o) := by
    intro o k k' hk
    cases o with
    | none => rfl
    | some o =>
      cases o with
      | map es => exact hk es
      | cells el es ex live cs => rfl
  have bl : ∀ (c : Bool) (x y : Rs V), y = Rs.rec .bad (fun v σ => .ok (nrmV v pc) σ) x → (Bool.rec .bad y c : Rs V) = Rs.rec .bad (fun v σ => .ok (nrmV v pc) σ) (Bool.rec .bad x c : Rs V) := by
    intro c x y e
    cases c with
    | false => rfl
    | true => exact e
  have rd : ∀ (lg : Lg) (b : Nat) (k k' : Lg → Rs V), (∀ l, k' l = Rs.rec .bad (fun v σ => .ok (nrmV v pc) σ) (k l)) → lg.rdK b k' = Rs.rec .bad (fun v σ => .ok (nrmV v pc) σ) (lg.rdK b k) := by
    intro lg b k k' hk
    rw [rdK_eq, rdK_eq]
    exact hk _
  have wr : ∀ (lg : Lg) (b : Nat) (k k' : Lg → Rs V), (∀ l, k' l = Rs.rec .bad (fun v σ => .ok (nrmV v pc) σ) (k l)) → lg.wrK b k' = Rs.rec .bad (fun v σ => .ok (nrmV v pc) σ) (lg.wrK b k) := by
    intro lg b k k' hk
    rw [wrK_eq, wrK_eq]
    exact hk _
  induction p with
  | ret a => intro h nx lg; rfl
  | bad n => intro h nx lg; rfl
  | cell b o k ih =>
    intro h nx lg
    refine row _ _ _ fun _ _ _ cs => ?_
    cases cs.get o with
    | none => rfl
    | some v => exact rd _ _ _ _ fun l => ih v h nx l
  | setc b o v k ih => intro h nx lg; exact row _ _ _ fun _ _ _ cs => bl _ _ _ (bl _ _ _ (bl _ _ _ (wr _ _ _ _ fun l => ih _ _ l)))
  | rows b lo n k ih => intro h nx lg; exact row _ _ _ fun _ _ _ cs => bl _ _ _ (rd _ _ _ _ fun l => ih _ _ _ l)
  | sets b lo cs k ih => intro h nx lg; exact row _ _ _ fun _ _ _ cs => bl _ _ _ (bl _ _ _ (bl _ _ _ (wr _ _ _ _ fun l => ih _ _ l)))
  | info b k ih => intro h nx lg; exact row _ _ _ fun _ _ _ cs => rd _ _ _ _ fun l => ih _ _ _ _ _ l
  | new o k ih =>
    intro h nx lg
    show (Option.rec ((nrmP pc (k nx)).run (h.set nx o) (Nat.succ nx) lg) (fun _ => .bad) (h.get nx) : Rs V) = Rs.rec .bad (fun v σ => .ok (nrmV v pc) σ) (Option.rec ((k nx).run (h.set nx o) (Nat.succ nx) lg) (fun _ => .bad) (h.get nx) : Rs V)
    cases h.get nx with
    | none => exact ih nx _ _ _
    | some _ => rfl
  | kill b k ih => intro h nx lg; exact row _ _ _ fun _ _ _ cs => bl _ _ _ (wr _ _ _ _ fun l => ih _ _ l)
  | getM r k ih => intro h nx lg; exact mp _ _ _ fun es => rd _ _ _ _ fun l => ih _ _ _ l
  | setM r es k ih => intro h nx lg; exact mp _ _ _ fun _ => bl _ _ _ (wr _ _ _ _ fun l => ih _ _ l)
theorem nrmP_snd {pc : List (BE × Bool)} (hp : PcOk env pc) {p : Pr V} {s : Sem Value} (hs : SndV env n0 P M h w p s) : SndV env n0 P M h w (nrmP pc p) s := by
  intro nx lg v h' nx' lg' hro hrun
  rw [nrmP_run] at hrun
  cases hr : p.run h nx lg with
  | bad => rw [hr] at hrun; cases hrun
  | ok u σ =>
    rw [hr] at hrun
    cases hrun
    obtain ⟨M', w', x, q1, q2, q3, q4, q5, q6⟩ := hs nx lg u h' nx' lg' hro hr
    exact ⟨M', w', x, q1, q2, q3, nrmV_ok hp q4, q5, q6⟩
theorem nrmA_ok {pc : List (BE × Bool)} (hp : PcOk env pc) {s : Sem Next} {A : Act} (hA : ActR env n0 P M h w s A) : ActR env n0 P M h w s (nrmA A pc) := by
  cases pc with
  | nil => exact hA
  | cons x r =>
    cases A with
    | val v => obtain ⟨y, h1, h2⟩ := hA; exact ⟨y, h1, nrmV_ok hp h2⟩
    | pv p => obtain ⟨y, h1, h2⟩ := hA; exact ⟨y, h1, nrmP_snd hp h2⟩
    | _ => exact hA
theorem vop_ok (hT : TabOk P cx) (hp : PcOk env cx.pc) (r : Rel env n0 M h w) (ht : TmR env M t a.tmps) (o : Oper) : ActR env n0 P M h w (execOp a.eval o) (vop o.op cx t) :=
  nrmA_ok hp (vop0_ok hT hp r ht o)
end
end Go.Vm
namespace Go.Vm
open Go.RowKit

/-- What is checked of a function's code once: each operation's temporary is there. -/
noncomputable def okDst (n : Nat) (d : Option Tmp) : Bool := Option.rec true (fun d => Nat.ble (Nat.succ d) n) d
noncomputable def okOps (n : Nat) (l : List Oper) : Bool := List.rec true (fun o _ ih => Bool.rec false ih (okDst n o.dst)) l
/-- chk: what is asked of a region that is drawn. -/
noncomputable def okCode (chk : List Oper → Bool) (n : Nat) : Code → Bool
  | .region _ ops draw => okOps n ops.toList && (!draw || chk ops.toList)
  | .seq a b => okCode chk n a && okCode chk n b
  | .cond _ a b => okCode chk n a && okCode chk n b
  | .block _ b => okCode chk n b
  | .loop b => okCode chk n b
  | .scope b => okCode chk n b
  | _ => true

section
variable {env : Nat → Int} {n0 : Old} {P : Program} {cx : Cx}
/-- How a state of the VM stands to the model's. -/
structure At (env : Nat → Int) (n0 : Old) (M : Mp) (h : Tr Ob) (nx : Nat) (t : Tm) (w : World) (a : Go.Act) : Prop where
  rel : Rel env n0 M h w
  tm : TmR env M t a.tmps
  ro : RO ≤ nx
/-- What is known behind. -/
structure Bhd (n0 : Old) (M M' : Mp) (a a' : Go.Act) (w w' : World) : Prop where
  le : M.le M'
  dfr : a'.defers = a.defers
  sz : a'.tmps.size = a.tmps.size
  bel : Below n0.n w w'
theorem Bhd.refl (M : Mp) (a : Go.Act) (w : World) : Bhd n0 M M a a w w := ⟨M.le_refl, rfl, rfl, Below.refl _ _⟩
theorem Bhd.trans {M M' M'' : Mp} {a a' a'' : Go.Act} {w w' w'' : World} (h : Bhd n0 M M' a a' w w') (k : Bhd n0 M' M'' a' a'' w' w'') : Bhd n0 M M'' a a'' w w'' :=
  ⟨Mp.le_trans h.le k.le, k.dfr.trans h.dfr, k.sz.trans h.sz, h.bel.trans k.bel⟩
abbrev Post := Exit → Go.Act → World → Prop
def PostK (env : Nat → Int) (n0 : Old) (M : Mp) (a : Go.Act) (w : World) (K : Go.Act → World → Prop) (t : Tm) : St → Prop
  | .mk h nx _ => ∀ M' a' w', At env n0 M' h nx t w' a' → Bhd n0 M M' a a' w w' → K a' w'
def PostR (env : Nat → Int) (n0 : Old) (M : Mp) (a : Go.Act) (w : World) (Q : Post) : R → Prop
  | .bad => False
  | .nm t σ => PostK env n0 M a w (Q .normal) t σ
  | .ex n t σ => PostK env n0 M a w (Q (.exit n)) t σ
  | .rt t σ => PostK env n0 M a w (Q .ret) t σ
theorem PostK.later {M M' : Mp} {a a' : Go.Act} {w w' : World} {K : Go.Act → World → Prop} {t : Tm} {σ : St} (h : PostK env n0 M a w K t σ) (b : Bhd n0 M M' a a' w w') : PostK env n0 M' a' w' K t σ := by
  cases σ
  exact fun M'' a'' w'' h1 h2 => h M'' a'' w'' h1 (b.trans h2)
theorem PostR.later {M M' : Mp} {a a' : Go.Act} {w w' : World} {Q : Post} {r : R} (h : PostR env n0 M a w Q r) (b : Bhd n0 M M' a a' w w') : PostR env n0 M' a' w' Q r := by
  cases r with
  | bad => exact h
  | nm t σ => exact PostK.later h b
  | ex n t σ => exact PostK.later h b
  | rt t σ => exact PostK.later h b
theorem Act.put_size (a : Go.Act) (d : Option Tmp) (v : Value) : (a.put d v).tmps.size = a.tmps.size := by
  cases d <;> simp [Go.Act.put]
theorem Act.put_defers (a : Go.Act) (d : Option Tmp) (v : Value) : (a.put d v).defers = a.defers := by
  cases d <;> rfl
theorem bhd_put {M M' : Mp} {a : Go.Act} {w w' : World} (hM : M.le M') (hb : Below n0.n w w') (d : Option Tmp) (v : Value) : Bhd n0 M M' a (a.put d v) w w' :=
  ⟨hM, Act.put_defers _ _ _, Act.put_size _ _ _, hb⟩

/-- What a call of the VM says of the model's. -/
def CallOk (env : Nat → Int) (n0 : Old) (P : Program) (call : CallT) : Prop :=
  ∀ f args h nx lg v h' nx' lg', call f args (.mk h nx lg) = .ok v (.mk h' nx' lg') → ∀ M w args', Rel env n0 M h w → RO ≤ nx → VRs env M args args'.toList →
    (∃ fn c, P.funcs[f]? = some fn ∧ fn.body = some c ∧ fn.name ≠ "runtime.NumGoroutine") ∧
    Calls P f args' w fun e w' => match e with
      | .returned x => ∃ M', M.le M' ∧ Rel env n0 M' h' w' ∧ VR env M' v x ∧ Below n0.n w w' ∧ RO ≤ nx'
      | _ => False
theorem dst_lt {n : Nat} {d : Option Tmp} (h : okDst n d = true) : ∀ k, d = some k → k < n := by
  intro k e
  subst e
  exact Nat.le_of_ble_eq_true h
/-- One operation. -/
theorem act_snd (hT : TabOk P cx) (hp : PcOk env cx.pc) {call : CallT} (hc : CallOk env n0 P call) {M : Mp} {h : Tr Ob} {nx : Nat} {lg : Lg} {t : Tm} {w : World} {a : Go.Act} (s : At env n0 M h nx t w a) (o : Oper)
    (hd : okDst a.tmps.size o.dst = true) {k : Tm → St → R} {res : R} (hres : act call o.dst t (.mk h nx lg) k (vop o.op cx t) = res) (hnb : res ≠ .bad) {next : Go.Act → World → Prop} {Q : Post}
    (hk : ∀ t' h' nx' lg', k t' (.mk h' nx' lg') = res → ∀ M' w' x v, At env n0 M' h' nx' t' w' (a.put o.dst x) → t' = putT o.dst v t → Bhd n0 M M' a (a.put o.dst x) w w' → next (a.put o.dst x) w') : o.wp P a w next Q := by
  have hv := vop_ok hT hp s.rel s.tm o
  have hput : ∀ {M' : Mp} {h' : Tr Ob} {nx' : Nat} {w' : World} {v : V} {x : Value}, M.le M' → Rel env n0 M' h' w' → VR env M' v x → RO ≤ nx' → At env n0 M' h' nx' (putT o.dst v t) w' (a.put o.dst x) := by
    intro M' h' nx' w' v x hM hr hx hro
    exact ⟨hr, TmR.put (s.tm.mono hM) hx (dst_lt hd), hro⟩
  unfold Oper.wp
  cases hvo : vop o.op cx t with
  | bad n => rw [hvo] at hres; exact absurd hres.symm hnb
  | val v =>
    rw [hvo] at hv hres
    obtain ⟨x, h1, h2⟩ := hv
    rw [h1, Oper.upon_value]
    exact hk _ _ _ _ hres M w x v (hput M.le_refl s.rel h2 s.ro) rfl (bhd_put M.le_refl (Below.refl _ _) _ _)
  | pv p =>
    rw [hvo] at hv hres
    obtain ⟨s', h1, h2⟩ := hv
    have hres : aftP o.dst t k (p.run h nx lg) = res := hres
    cases hrun : p.run h nx lg with
    | bad => rw [hrun] at hres; exact absurd hres.symm hnb
    | ok v σ =>
      rw [hrun] at hres
      cases σ with
      | mk h' nx' lg' =>
        obtain ⟨M', w', x, q1, q2, q3, q4, q5, q6⟩ := h2 nx lg v h' nx' lg' s.ro hrun
        rw [h1, Sem.run_bind, q1, Result.andThen_ok, Sem.run_pure, Oper.upon_value]
        exact hk _ _ _ _ hres M' w' x v (hput q2 q3 q4 q6) rfl (bhd_put q2 q5 _ _)
  | pu p =>
    rw [hvo] at hv hres
    obtain ⟨s', h1, h2⟩ := hv
    have hres : aftU o.dst t k (p.run h nx lg) = res := hres
    cases hrun : p.run h nx lg with
    | bad => rw [hrun] at hres; exact absurd hres.symm hnb
    | ok v σ =>
      rw [hrun] at hres
      cases σ with
      | mk h' nx' lg' =>
        obtain ⟨M', w', x, q1, q2, q3, q4, q5, q6⟩ := h2 nx lg v h' nx' lg' s.ro hrun
        rw [h1, Sem.run_bind, q1, Result.andThen_ok, Sem.run_pure, Oper.upon_skip]
        exact hk _ _ _ _ hres M' w' undef undefV (hput q2 q3 undef_ok q6) rfl (bhd_put q2 q5 _ _)
  | call f args =>
    rw [hvo] at hv hres
    obtain ⟨args', h1, h2⟩ := hv
    have hres : aftP o.dst t k (call f args (.mk h nx lg)) = res := hres
    cases hrun : call f args (.mk h nx lg) with
    | bad => rw [hrun] at hres; exact absurd hres.symm hnb
    | ok v σ =>
      rw [hrun] at hres
      cases σ with
      | mk h' nx' lg' =>
        obtain ⟨⟨fn, c, f1, f2, f3⟩, hcalls⟩ := hc f args h nx lg v h' nx' lg' hrun M w args' s.rel s.ro h1
        rw [h2 fn c f1 f2 f3, Oper.upon_enter]
        refine Calls.mono hcalls fun e w' he => ?_
        cases e with
        | returned x =>
          obtain ⟨M', q2, q3, q4, q5, q6⟩ := he
          exact hk _ _ _ _ hres M' w' x v (hput q2 q3 q4 q6) rfl (bhd_put q2 q5 _ _)
        | panicked _ => exact he.elim
        | outgrown => exact he.elim
/-! ### guards -/
theorem dstOf_eq : ∀ (l : List Oper) (j : Nat), dstOf l j = (l[j]?).bind (·.dst)
  | [], _ => rfl
  | _ :: _, 0 => rfl
  | _ :: l, j + 1 => dstOf_eq l j
theorem wanted_ok (hp : PcOk env cx.pc) {M : Mp} {t : Tm} {a : Go.Act} (ht : TmR env M t a.tmps) (ops : Array Oper) (o : Oper) {c : Bool} (h : wanted o.guard ops.toList cx t = some c) : Region.wanted o (yielded ops a.tmps) = c := by
  obtain ⟨dst, op, ty, ps, af, g⟩ := o
  cases g with
  | none => cases h; rfl
  | some g =>
    obtain ⟨j, want⟩ := g
    have h : guardT ops.toList cx t j want = some c := h
    show (yielded ops a.tmps j == some want) = c
    unfold guardT at h
    rw [dstOf_eq, Array.getElem?_toList] at h
    unfold yielded
    cases hd : (ops[j]?).bind (·.dst) with
    | none => rw [hd] at h; cases h; rfl
    | some d =>
      rw [hd] at h
      have h : boolO (t.get d) cx want = some c := h
      have htd := ht d
      rw [Array.getD_eq_getD_getElem?] at htd
      simp only [Option.bind_some]
      cases htg : t.get d with
      | none =>
        rw [htg] at h htd
        cases h
        have htd : VR env M undefV ((a.tmps[d]?).getD undef) := htd
        cases hv : a.tmps[d]? with
        | none => rfl
        | some x =>
          rw [hv] at htd
          have htd : VR env M undefV x := htd
          cases htd; rfl
      | some v =>
        rw [htg] at h htd
        have htd : VR env M v ((a.tmps[d]?).getD undef) := htd
        cases hv : a.tmps[d]? with
        | none =>
          rw [hv] at htd
          have htd : VR env M v undef := htd
          cases htd
          cases h; rfl
        | some x =>
          rw [hv] at htd
          have htd : VR env M v x := htd
          cases htd with
          | b e =>
            have h : boolD (cx.dec e) want = some c := h
            cases hde : cx.dec e with
            | none => rw [hde] at h; cases h
            | some b =>
              rw [hde] at h
              rw [dec_ok hp hde]
              cases h
              cases b <;> cases want <;> rfl
          | _ => cases h; rfl
end
end Go.Vm
namespace Go.Vm
open Go.RowKit
section
variable {env : Nat → Int} {n0 : Old} {P : Program} {cx : Cx}
theorem evOps_cons (call : CallT) (ops : List Oper) (o : Oper) (l : List Oper) (t : Tm) (σ : St) :
    evOps call cx ops (o :: l) t σ = wantR (wanted o.guard ops cx t) (evOps call cx ops l (putT o.dst undefV t) σ) (act call o.dst t σ (evOps call cx ops l) (vop o.op cx t)) := by
  cases o; rfl
theorem okOps_cons {n : Nat} {o : Oper} {l : List Oper} (h : okOps n (o :: l) = true) : okDst n o.dst = true ∧ okOps n l = true := by
  have h : (Bool.rec false (okOps n l) (okDst n o.dst) : Bool) = true := h
  cases hd : okDst n o.dst with
  | false => rw [hd] at h; cases h
  | true => rw [hd] at h; exact ⟨rfl, h⟩
theorem wantR_ok {x : Option Bool} {no yes res : R} (h : wantR x no yes = res) (hnb : res ≠ .bad) : (x = some false ∧ no = res) ∨ (x = some true ∧ yes = res) := by
  cases x with
  | none => exact absurd h.symm hnb
  | some c => cases c with
    | false => exact .inl ⟨rfl, h⟩
    | true => exact .inr ⟨rfl, h⟩
theorem ops_snd (hT : TabOk P cx) (hp : PcOk env cx.pc) {call : CallT} (hc : CallOk env n0 P call) (ops : Array Oper) {Q : Post} : ∀ (l : List Oper) (i : Nat) (M : Mp) (h : Tr Ob) (nx : Nat) (lg : Lg) (t : Tm) (w : World) (a : Go.Act) (res : R),
    ops.toList.drop i = l → okOps a.tmps.size l = true → At env n0 M h nx t w a → evOps call cx ops.toList l t (.mk h nx lg) = res → PostR env n0 M a w Q res → wpOps P ops Q (List.range' i l.length) a w
  | [], i, M, h, nx, lg, t, w, a, res, hl, hok, s, hres, hpost => by
    have : R.nm t (.mk h nx lg) = res := hres
    subst this
    exact hpost M a w s (Bhd.refl _ _ _)
  | o :: l, i, M, h, nx, lg, t, w, a, res, hl, hok, s, hres, hpost => by
    have hnb : res ≠ .bad := by intro e; subst e; exact hpost
    rw [evOps_cons] at hres
    obtain ⟨hd, hok'⟩ := okOps_cons hok
    have hoi : ops[i]? = some o := by
      rw [← Array.getElem?_toList]
      have := List.getElem?_drop (xs := ops.toList) (i := i) (j := 0)
      rw [hl] at this
      simpa using this.symm
    have hl' : ops.toList.drop (i + 1) = l := by
      have := List.drop_drop (i := 1) (j := i) (l := ops.toList)
      rw [hl] at this
      simpa [Nat.add_comm] using this.symm
    rw [List.length_cons, List.range'_succ]
    simp only [wpOps, hoi]
    rcases wantR_ok hres hnb with ⟨hw, hr⟩ | ⟨hw, hr⟩
    · rw [if_neg (by rw [wanted_ok hp s.tm ops o hw]; simp)]
      refine ops_snd hT hp hc ops l (i + 1) M h nx lg _ w _ res hl' (by rw [Act.put_size]; exact hok') ⟨s.rel, TmR.put s.tm undef_ok (dst_lt hd), s.ro⟩ hr (hpost.later (bhd_put M.le_refl (Below.refl _ _) _ _))
    · rw [if_pos (wanted_ok hp s.tm ops o hw)]
      refine .inl (act_snd hT hp hc s o hd hr hnb fun t' h' nx' lg' hk M' w' x v s' _ b => ?_)
      exact ops_snd hT hp hc ops l (i + 1) M' h' nx' lg' t' w' _ res hl' (by rw [Act.put_size]; exact hok') s' hk (hpost.later b)

/-! ### results -/
theorem load_run (hT : TabOk P cx) {M : Mp} {h : Tr Ob} {w : World} (r : Rel env n0 M h w) {v x : V} {v' : Value} (hv : VR env M v v') (t : TypeId) {nx : Nat} {lg : Lg} {h' : Tr Ob} {nx' : Nat} {lg' : Lg}
    (e : (vload v cx t).run h nx lg = .ok x (.mk h' nx' lg')) : h' = h ∧ nx' = nx ∧ ∃ x', (do loadVar t (← asAddr v') : Sem Value).run P w = .ok x' w ∧ VR env M x x' := by
  cases hv with
  | p b o pl hM =>
    have e : (vload2 (cx.ty.get t) b o).run h nx lg = .ok x (.mk h' nx' lg') := e
    cases ht : cx.ty.get t with
    | none => rw [ht] at e; exact (run_bad e).elim
    | some ti =>
      rw [ht] at e
      have ok := hT t ti ht
      have e : ((match ti.ag with | true => Pr.rows b o ti.size fun cs => .ret (.agg cs.toList) | false => .cell b o .ret : Pr V)).run h nx lg = .ok x (.mk h' nx' lg') := e
      have ha := ok.run_isAgg (w := w)
      cases hag : ti.ag with
      | true =>
        rw [hag] at ha e
        obtain ⟨el, es, ex, cs, h1, h2, h3⟩ := run_rows e
        obtain ⟨e4, e5⟩ := run_ret h3
        cases e5; subst e4
        obtain ⟨pl', c, el', fz, m1, m2, m3, m4, m5⟩ := r.live h1
        rw [hM] at m1; cases m1
        obtain ⟨xs, x1, x2, x3, _⟩ := m3.loads (P := P) o ti.size h2
        refine ⟨rfl, rfl, .agg xs.toArray, ?_, .agg _ _ (by rw [RL.toList_take, RL.toList_drop]; simpa using x2)⟩
        simp only [asAddr, pure_bind, loadVar, Sem.run_bind, ha, Result.andThen_ok, if_true, ok.run_size, x3]
        rfl
      | false =>
        rw [hag] at ha e
        obtain ⟨el, es, ex, cs, v, h1, h2, h3⟩ := run_cell e
        obtain ⟨e4, e5⟩ := run_ret h3
        cases e5; subst e4
        obtain ⟨pl', c, el', fz, m1, m2, m3, m4, m5⟩ := r.live h1
        rw [hM] at m1; cases m1
        obtain ⟨x, x1, x2⟩ := m3.cell _ _ h2
        refine ⟨rfl, rfl, x, ?_, x2⟩
        simp only [asAddr, pure_bind, loadVar, Sem.run_bind, ha, Result.andThen_ok, Bool.false_eq_true, if_false, run_load, cell_of pl _ m3.heap, x1]
  | _ => exact (run_bad e).elim
def resOf (tmps : Array Value) : ResultVar → Sem Value
  | .tmp t => pure (tmps.getD t undef)
  | .cell c ty => do loadVar ty (← asAddr (tmps.getD c undef))
theorem results_eq (fn : Func) (tmps : Array Value) : results fn tmps = (do let vs ← fn.results.mapM (resOf tmps); pure (if h : vs.size = 1 then vs[0] else .tuple vs)) := by
  unfold results
  congr 2
theorem loadRes_ok (hT : TabOk P cx) {M : Mp} {h : Tr Ob} {w : World} (r : Rel env n0 M h w) {t : Tm} {a : Go.Act} (ht : TmR env M t a.tmps) : ∀ (rs : List ResultVar) (acc vs : List V) (nx : Nat) (lg : Lg) (h' : Tr Ob) (nx' : Nat) (lg' : Lg), RO ≤ nx →
    loadRes cx t rs acc (.mk h nx lg) = .ok vs (.mk h' nx' lg') → h' = h ∧ nx' = nx ∧ ∃ xs : List Value, ∃ ys : List V, vs = acc.reverse ++ ys ∧ VRs env M ys xs ∧
      (rs.mapM (resOf a.tmps)).run P w = .ok xs w
  | [], acc, vs, nx, lg, h', nx', lg', hn, e => by
    cases e
    exact ⟨rfl, rfl, [], [], by simp, .nil, rfl⟩
  | .tmp i :: rs, acc, vs, nx, lg, h', nx', lg', hn, e => by
    replace e : loadRes cx t rs (orU (t.get i) :: acc) (.mk h nx lg) = .ok vs (.mk h' nx' lg') := e
    obtain ⟨h1, h2, xs, ys, h3, h4, h5⟩ := loadRes_ok hT r ht rs _ vs nx lg h' nx' lg' hn e
    refine ⟨h1, h2, _ :: xs, orU (t.get i) :: ys, by rw [h3]; simp, .cons _ _ _ _ (ht i) h4, ?_⟩
    simp only [List.mapM_cons, resOf, pure_bind, Sem.run_bind, h5, Result.andThen_ok, Sem.run_pure]
  | .cell c ty :: rs, acc, vs, nx, lg, h', nx', lg', hn, e => by
    replace e : (Rs.rec .bad (fun v σ => loadRes cx t rs (v :: acc) σ) ((vload (orU (t.get c)) cx ty).run h nx lg) : Rs (List V)) = .ok vs (.mk h' nx' lg') := e
    cases hrun : (vload (orU (t.get c)) cx ty).run h nx lg with
    | bad => rw [hrun] at e; cases e
    | ok v σ =>
      rw [hrun] at e
      cases σ with
      | mk h1 nx1 lg1 =>
        obtain ⟨q1, q2, x', q3, q4⟩ := load_run hT r (ht c) ty hrun
        subst q1 q2
        obtain ⟨h1, h2, xs, ys, h3, h4, h5⟩ := loadRes_ok hT r ht rs _ vs _ _ h' nx' lg' hn e
        refine ⟨h1, h2, x' :: xs, v :: ys, by rw [h3]; simp, .cons _ _ _ _ q4 h4, ?_⟩
        rw [List.mapM_cons, Sem.run_bind]
        have q3' : (resOf a.tmps (.cell c ty)).run P w = .ok x' w := q3
        rw [q3']
        simp only [Result.andThen_ok, Sem.run_bind, h5, Sem.run_pure]
theorem packV_ok {M : Mp} {ys : List V} {xs : List Value} (h : VRs env M ys xs) : VR env M (packV ys) (if h : xs.toArray.size = 1 then xs.toArray[0] else .tuple xs.toArray) := by
  match ys, xs, h with
  | [], _, .nil => exact .tup [] #[] .nil
  | [y], _, .cons _ x _ _ h1 .nil => exact h1
  | y :: z :: l, _, .cons _ x _ _ h1 (.cons _ x2 _ _ h2 h3) =>
    rw [dif_neg (by simp)]
    exact .tup _ _ (.cons _ _ _ _ h1 (.cons _ _ _ _ h2 h3))
theorem results_ok (hT : TabOk P cx) {M : Mp} {h : Tr Ob} {w : World} (r : Rel env n0 M h w) {t : Tm} {a : Go.Act} (ht : TmR env M t a.tmps) (fn : Func) {nx : Nat} {lg : Lg} (hn : RO ≤ nx) {v : V} {h' : Tr Ob} {nx' : Nat} {lg' : Lg}
    (e : packR (loadRes cx t fn.results.toList [] (.mk h nx lg)) = .ok v (.mk h' nx' lg')) : h' = h ∧ nx' = nx ∧ ∃ x, (results fn a.tmps).run P w = .ok x w ∧ VR env M v x := by
  cases hl : loadRes cx t fn.results.toList [] (.mk h nx lg) with
  | bad => rw [hl] at e; cases e
  | ok vs σ =>
    rw [hl] at e
    cases σ with
    | mk h1 nx1 lg1 =>
      have e : Rs.ok (packV vs) (.mk h1 nx1 lg1) = .ok v (.mk h' nx' lg') := e
      cases e
      obtain ⟨h1, h2, xs, ys, h3, h4, h5⟩ := loadRes_ok hT r ht _ _ vs _ _ _ _ _ hn hl
      refine ⟨h1, h2, _, ?_, by rw [h3]; exact packV_ok h4⟩
      rw [results_eq, Sem.run_bind]
      have : (fn.results.mapM (resOf a.tmps)).run P w = .ok xs.toArray w := by
        rw [Array.mapM_eq_mapM_toList]
        show Sem.run P (List.toArray <$> fn.results.toList.mapM (resOf a.tmps)) w = _
        rw [map_eq_pure_bind, Sem.run_bind, h5]
        rfl
      rw [this]
      rfl
end
end Go.Vm
namespace Go.Vm
open Go.RowKit

/-! ### loops, told from their turn on -/
def wpL (P : Program) (c : Code) (Q : Post) (a : Go.Act) (w : World) : Prop :=
  ∀ (b : Frame) (k : List Item) (cs : List Frame), ∃ e a' w', Q e a' w' ∧ Arrives P (lone (b.at a (.code c :: .inLoop c :: k)) cs w) b k cs e a' w'
theorem wpL_turn {P : Program} {c : Code} {Q : Post} {a : Go.Act} {w : World} (h : c.wp P (Exit.then (wpL P c Q) Q) a w) : wpL P c Q a w := by
  intro b k cs
  obtain ⟨e, a₁, w₁, hq, harr⟩ := h b (.inLoop c :: k) cs
  cases e with
  | normal =>
    obtain ⟨e₂, a₂, w₂, hq₂, harr₂⟩ := hq b k cs
    exact ⟨e₂, a₂, w₂, hq₂, .of_steps (Steps.trans harr (.one step_inLoop)) harr₂⟩
  | exit id => exact ⟨_, a₁, w₁, hq, .pass (x := .inLoop c) rfl (fun _ _ => .inl (by simp)) harr⟩
  | goto l => exact ⟨_, a₁, w₁, hq, .pass (x := .inLoop c) rfl (fun _ _ => .inl (by simp)) harr⟩
  | ret => exact ⟨_, a₁, w₁, hq, .pass (x := .inLoop c) rfl (fun _ _ => .inl (by simp)) harr⟩
  | panic ch => exact ⟨_, a₁, w₁, hq, .pass (x := .inLoop c) rfl (fun _ _ => .inl (by simp)) harr⟩
  | outgrown => exact ⟨_, a₁, w₁, hq, .pass (x := .inLoop c) rfl (fun _ _ => .inl (by simp)) harr⟩
theorem wp_of_wpL {P : Program} {c : Code} {Q : Post} {a : Go.Act} {w : World} (h : wpL P c Q a w) : (Code.loop c).wp P Q a w := by
  intro b k cs
  obtain ⟨e, a₁, w₁, hq, harr⟩ := h b k cs
  exact ⟨e, a₁, w₁, hq, .of_steps (.one step_loop) harr⟩
def wpC (P : Program) (c : Code) (Q : Post) (a : Go.Act) (w : World) : Prop := match c with
  | .loop b => wpL P b Q a w
  | c => c.wp P Q a w
theorem wpC.wp {P : Program} {c : Code} {Q : Post} {a : Go.Act} {w : World} (h : wpC P c Q a w) : c.wp P Q a w := by
  cases c <;> first
    | exact h
    | exact wp_of_wpL h

section
variable {env : Nat → Int} {n0 : Old} {P : Program} {cx : Cx}
/-- What a call comes to, told by a run over the small heap. -/
def SumOk (n0 : Old) (P : Program) (f : FuncId) (g : List (BE × Bool) → List V → Pr V) : Prop :=
  (∃ fn c, P.funcs[f]? = some fn ∧ fn.body = some c ∧ fn.name ≠ "runtime.NumGoroutine") ∧
  ∀ (env : Nat → Int) pc args h nx lg v h' nx' lg', PcOk env pc → (g pc args).run h nx lg = .ok v (.mk h' nx' lg') → ∀ M w args', Rel env n0 M h w → RO ≤ nx → VRs env M args args'.toList →
    Calls P f args' w fun e w' => match e with
      | .returned x => ∃ M', M.le M' ∧ Rel env n0 M' h' w' ∧ VR env M' v x ∧ Below n0.n w w' ∧ RO ≤ nx'
      | _ => False
/-- The table of functions is the program's. -/
def FuOk (n0 : Old) (P : Program) (chk : List Oper → Bool) (cx : Cx) : Prop := ∀ f fu, cx.fu.get f = some fu →
  (∃ fn c, P.funcs[f]? = some fn ∧ fn.body = some c ∧ fn.name ≠ "runtime.NumGoroutine" ∧ fu = .mk fn.ntmps fn.results.toList c ∧ okCode chk fn.ntmps c = true) ∨ ∃ g, fu = .sum g ∧ SumOk n0 P f g
theorem Rel.below {M : Mp} {h : Tr Ob} {w w' : World} (r : Rel env n0 M h w) (b : Below w.heap.size w w') : Rel env n0 M h w' := by
  refine ⟨r.dom, fun k ob hk => ?_, r.inj, Nat.le_trans r.size b.size, fun k hk => (b.block k (Nat.lt_of_lt_of_le hk r.size)).trans (r.old k hk), fun k hk => ⟨Nat.lt_of_lt_of_le (r.kept k hk).1 b.size, (b.block k (r.kept k hk).1).trans (r.kept k hk).2⟩, r.apart⟩
  obtain ⟨pl, h1, h2, h3, h4, h5⟩ := r.row k ob hk
  exact ⟨pl, h1, h2.mono M.le_refl fun _ => b.block _ h5, h3, h4, Nat.lt_of_lt_of_le h5 b.size⟩
/-- A call that turns nothing that was there and whose answer is known from its arguments. -/
theorem sum_pure {f : FuncId} {g : List (BE × Bool) → List V → Option V} (hf : ∃ fn c, P.funcs[f]? = some fn ∧ fn.body = some c ∧ fn.name ≠ "runtime.NumGoroutine")
    (hc : ∀ (env : Nat → Int) pc args v, PcOk env pc → g pc args = some v → ∀ M args' w, (∀ k, k < n0.n → w.heap[k]? = n0.G k) → VRs env M args args'.toList → Calls P f args' w fun e w' => ∃ x, e = .returned x ∧ VR env M v x ∧ Below w.heap.size w w') :
    SumOk n0 P f (fun pc args => o1P (g pc args)) := by
  refine ⟨hf, ?_⟩
  intro env pc args h nx lg v h' nx' lg' hp hres M w args' r hn hargs
  have hres : (o1P (g pc args)).run h nx lg = .ok v (.mk h' nx' lg') := hres
  cases hg : g pc args with
  | none => rw [hg] at hres; cases hres
  | some u =>
    rw [hg] at hres
    cases hres
    refine (hc env pc args _ hp hg M args' w r.old hargs).mono fun e w' ⟨x, he, hv, hb⟩ => ?_
    subst he
    exact ⟨M, M.le_refl, r.below hb, hv, hb.mono r.size, hn⟩
theorem sum_const {f : FuncId} {b : Bool} (hf : ∃ fn c, P.funcs[f]? = some fn ∧ fn.body = some c ∧ fn.name ≠ "runtime.NumGoroutine") (hc : ∀ w : World, Calls P f #[] w fun e w' => e = .returned (.bool b) ∧ Below w.heap.size w w') : SumOk n0 P f (constG b) := by
  refine ⟨hf, ?_⟩
  intro env pc args h nx lg v h' nx' lg' hp hres M w args' r hn hargs
  cases args with
  | cons x l => cases hres
  | nil =>
    cases hres
    have ha : args' = #[] := by
      have := hargs.length
      exact Array.eq_empty_of_size_eq_zero (by simpa using this.symm)
    subst ha
    refine (hc w).mono fun e w' ⟨he, hb⟩ => ?_
    subst he
    exact ⟨M, M.le_refl, r.below hb, .b (.c b), hb.mono r.size, hn⟩
def CodeOk (env : Nat → Int) (n0 : Old) (P : Program) (chk : List Oper → Bool) (ev : EvT) : Prop :=
  ∀ c M h nx lg t w a res (Q : Post), okCode chk a.tmps.size c = true → At env n0 M h nx t w a → ev c t (.mk h nx lg) = res → PostR env n0 M a w Q res → wpC P c Q a w
def DrawOk (env : Nat → Int) (n0 : Old) (P : Program) (chk : List Oper → Bool) (cx : Cx) (call : CallT) : Prop :=
  ∀ id (ops : Array Oper) M h nx lg t w a res (Q : Post), okOps a.tmps.size ops.toList = true → chk ops.toList = true → At env n0 M h nx t w a → evReg true call cx ops.toList t (.mk h nx lg) = res → PostR env n0 M a w Q res →
    (Code.region id ops true).wp P Q a w
theorem band {a b : Bool} (h : (a && b) = true) : a = true ∧ b = true := and_true h
theorem PostR.then {M : Mp} {a : Go.Act} {w : World} {Q : Post} {K : Go.Act → World → Prop} {r : R} {k : Tm → St → R} (h : PostR env n0 M a w Q (seqK k r))
    (hk : ∀ t h' nx lg, ∀ M' a' w', At env n0 M' h' nx t w' a' → Bhd n0 M M' a a' w w' → PostR env n0 M' a' w' Q (k t (.mk h' nx lg)) → K a' w') : PostR env n0 M a w (Exit.then K Q) r := by
  cases r with
  | bad => exact h
  | nm t σ =>
    cases σ with
    | mk h' nx lg =>
      intro M' a' w' s b
      exact hk t h' nx lg M' a' w' s b (PostR.later (r := k t (.mk h' nx lg)) h b)
  | ex n t σ => exact h
  | rt t σ => exact h
theorem blockK_post {M : Mp} {a : Go.Act} {w : World} {Q : Post} {id : Nat} {r : R} (h : PostR env n0 M a w Q (blockK id r)) : PostR env n0 M a w (Exit.inBlock id Q) r := by
  cases r with
  | bad => exact h
  | nm t σ => exact h
  | rt t σ => exact h
  | ex n t σ =>
    replace h : PostR env n0 M a w Q (Bool.rec (.ex n t σ) (.nm t σ) (Nat.beq n id)) := h
    cases hb : Nat.beq n id with
    | true =>
      rw [hb] at h
      have := Nat.eq_of_beq_eq_true hb
      subst this
      show PostK env n0 M a w (Exit.inBlock n Q (.exit n)) t σ
      have e : Exit.inBlock n Q (.exit n) = Q .normal := by funext a w; simp [Exit.inBlock]
      rw [e]; exact h
    | false =>
      rw [hb] at h
      rw [RL.beq_dec] at hb
      have hne := of_decide_eq_false hb
      show PostK env n0 M a w (Exit.inBlock id Q (.exit n)) t σ
      have e : Exit.inBlock id Q (.exit n) = Q (.exit n) := by funext a w; simp [Exit.inBlock, hne]
      rw [e]; exact h
theorem code_snd (hT : TabOk P cx) (hp : PcOk env cx.pc) {chk : List Oper → Bool} {ev : EvT} (ih : CodeOk env n0 P chk ev) (hc : CallOk env n0 P (callOf ev cx)) (hdr : DrawOk env n0 P chk cx (callOf ev cx)) :
    CodeOk env n0 P chk (fun c => evC c ev cx) := by
  intro c M h nx lg t w a res Q hok s hres hpost
  subst hres
  cases c with
  | skip => exact wp_skip (hpost M a w s (Bhd.refl _ _ _))
  | region id ops draw =>
    obtain ⟨h1, h2⟩ := band hok
    cases draw with
    | false =>
      refine wp_region ?_
      rw [List.range_eq_range']
      have := ops_snd hT hp hc ops ops.toList 0 M h nx lg t w a _ rfl h1 s rfl hpost
      rwa [Array.length_toList] at this
    | true => exact hdr id ops M h nx lg t w a _ Q h1 (by simpa using h2) s rfl hpost
  | seq x y =>
    obtain ⟨h1, h2⟩ := band hok
    refine wp_seq (wpC.wp (ih x M h nx lg t w a _ _ h1 s rfl (PostR.then hpost fun t' h' nx' lg' M' a' w' s' b hp' => ?_)))
    exact wpC.wp (ih y M' h' nx' lg' t' w' a' _ Q (by rw [b.sz]; exact h2) s' rfl hp')
  | cond c x y =>
    obtain ⟨h1, h2⟩ := band hok
    have hpost : PostR env n0 M a w Q (condV (Tm.ev c t) cx (ev x t (.mk h nx lg)) (ev y t (.mk h nx lg))) := hpost
    cases hc' : Tm.ev c t with
    | none => rw [hc'] at hpost; exact hpost.elim
    | some v =>
      rw [hc'] at hpost
      have hv := ev_ok s.tm hc'
      generalize hx : a.eval c = x' at hv
      cases hv with
      | b e =>
        have hpost : PostR env n0 M a w Q (condD (cx.dec e) (ev x t (.mk h nx lg)) (ev y t (.mk h nx lg))) := hpost
        cases hd : cx.dec e with
        | none => rw [hd] at hpost; exact hpost.elim
        | some b =>
          rw [hd] at hpost
          rw [dec_ok hp hd] at hx
          cases b with
          | true => exact wp_cond_true hx (wpC.wp (ih x M h nx lg t w a _ Q h1 s rfl hpost))
          | false => exact wp_cond_false hx (wpC.wp (ih y M h nx lg t w a _ Q h2 s rfl hpost))
      | _ => exact hpost.elim
  | block id b => exact wp_block (wpC.wp (ih b M h nx lg t w a _ _ hok s rfl (blockK_post hpost)))
  | loop b =>
    refine wpL_turn (wpC.wp (ih b M h nx lg t w a _ _ hok s rfl (PostR.then hpost fun t' h' nx' lg' M' a' w' s' bb hp' => ?_)))
    exact ih (.loop b) M' h' nx' lg' t' w' a' _ Q (by rw [bb.sz]; exact hok) s' rfl hp'
  | exit m => exact wp_exit (hpost M a w s (Bhd.refl _ _ _))
  | scope b =>
    refine wp_scope_straight (wpC.wp (ih b M h nx lg t w a _ _ hok s rfl ?_))
    have hpost : PostR env n0 M a w Q (ev b t (.mk h nx lg)) := hpost
    revert hpost
    cases ev b t (.mk h nx lg) <;> exact fun h => h
  | ret => exact wp_ret (hpost M a w s (Bhd.refl _ _ _))
  | _ => exact hpost.elim
/-! ### calls -/
theorem argsTm_get (l : List V) : ∀ (n : Nat) (t : Tm) (i : Nat), (argsTm l n t).get i = if n ≤ i ∧ i < n + l.length then l[i - n]? else t.get i := by
  induction l with
  | nil => intro n t i; rw [if_neg (fun e => by have := e.2; simp only [List.length_nil] at this; omega)]; rfl
  | cons v l ih =>
    intro n t i
    show (argsTm l (n + 1) (t.set n v)).get i = _
    rw [ih, Tr.get_set, List.length_cons]
    by_cases h1 : n + 1 ≤ i ∧ i < n + 1 + l.length
    · rw [if_pos h1, if_pos (by omega), show i - n = (i - (n + 1)) + 1 by omega]
      rfl
    · rw [if_neg h1]
      by_cases h2 : i = n
      · subst h2
        rw [if_pos rfl, if_pos (by omega)]
        simp
      · rw [if_neg h2, if_neg (by omega)]
theorem args_tm {M : Mp} {args : List V} {args' : Array Value} (h : VRs env M args args'.toList) (n : Nat) : TmR env M (argsTm args 0 .nil) (args' ++ Array.replicate (n - args'.size) undef) := by
  intro i
  have hl : args.length = args'.size := by have := h.length; simpa using this
  rw [argsTm_get, Array.getD_eq_getD_getElem?]
  by_cases hi : i < args.length
  · rw [if_pos (by omega)]
    obtain ⟨x, x1, x2⟩ := h.get i _ (List.getElem?_eq_getElem hi)
    have x1' : args'[i]? = some x := by simpa using x1
    rw [Array.getElem?_append_left (by omega), x1', Nat.sub_zero, List.getElem?_eq_getElem hi]
    exact x2
  · rw [if_neg (by omega), Array.getElem?_append_right (by omega), Array.getElem?_replicate]
    split
    · exact undef_ok
    · exact undef_ok
theorem okDst_mono {n m : Nat} (h : n ≤ m) {d : Option Tmp} (e : okDst n d = true) : okDst m d = true := by
  cases d with
  | none => rfl
  | some k =>
    have := dst_lt e k rfl
    have h2 : k + 1 ≤ m := Nat.le_trans this h
    exact Nat.ble_eq_true_of_le h2
theorem okOps_mono {n m : Nat} (h : n ≤ m) : ∀ (l : List Oper), okOps n l = true → okOps m l = true
  | [], _ => rfl
  | o :: l, e => by
    obtain ⟨h1, h2⟩ := okOps_cons e
    show (Bool.rec false (okOps m l) (okDst m o.dst) : Bool) = true
    rw [okDst_mono h h1]
    exact okOps_mono h l h2
theorem okCode_mono {chk : List Oper → Bool} {n m : Nat} (h : n ≤ m) : ∀ (c : Code), okCode chk n c = true → okCode chk m c = true
  | .region _ ops draw, e => by
    obtain ⟨h1, h2⟩ := band e
    show (okOps m ops.toList && _) = true
    rw [okOps_mono h _ h1]
    exact h2
  | .seq a b, e => by
    obtain ⟨h1, h2⟩ := band e
    show (okCode chk m a && okCode chk m b) = true
    rw [okCode_mono h a h1, okCode_mono h b h2]; rfl
  | .cond _ a b, e => by
    obtain ⟨h1, h2⟩ := band e
    show (okCode chk m a && okCode chk m b) = true
    rw [okCode_mono h a h1, okCode_mono h b h2]; rfl
  | .block _ b, e => okCode_mono h b e
  | .loop b, e => okCode_mono h b e
  | .scope b, e => okCode_mono h b e
  | .skip, _ => rfl
  | .exit _, _ => rfl
  | .ret, _ => rfl
  | .rangeFunc .., _ => rfl
  | .label _, _ => rfl
  | .goto _, _ => rfl
  | .refuse _, _ => rfl
theorem call_snd (hT : TabOk P cx) (hp : PcOk env cx.pc) {chk : List Oper → Bool} (hF : FuOk n0 P chk cx) {ev : EvT} (ih : CodeOk env n0 P chk ev) : CallOk env n0 P (callOf ev cx) := by
  intro f args h nx lg v h' nx' lg' hres M w args' r hn hargs
  have hres : callFu ev cx args (.mk h nx lg) (cx.fu.get f) = .ok v (.mk h' nx' lg') := hres
  cases hfu : cx.fu.get f with
  | none => rw [hfu] at hres; cases hres
  | some fu =>
    rw [hfu] at hres
    rcases hF f fu hfu with ⟨fn, c, f1, f2, f3, f4, f5⟩ | ⟨g, f4, f5, f6⟩
    case inr =>
      subst f4
      exact ⟨f5, f6 env cx.pc args h nx lg v h' nx' lg' hp hres M w args' r hn hargs⟩
    subst f4
    refine ⟨⟨fn, c, f1, f2, f3⟩, ?_⟩
    have hres : retOf cx fn.results.toList (ev c (argsTm args 0 .nil) (.mk h nx lg)) = .ok v (.mk h' nx' lg') := hres
    refine calls_of_wp f1 f2 (wpC.wp (ih c M h nx lg (argsTm args 0 .nil) w _ _ _ ?_ ⟨r, args_tm hargs fn.ntmps, hn⟩ rfl ?_))
    · refine okCode_mono ?_ c f5
      simp only [Array.size_append, Array.size_replicate]; omega
    · generalize ev c (argsTm args 0 .nil) (.mk h nx lg) = rr at hres
      have fin : ∀ t σ, packR (loadRes cx t fn.results.toList [] σ) = .ok v (.mk h' nx' lg') → ∀ (K : Go.Act → World → Prop), (∀ a w', (a.defers = [] ∧ ∃ x, (results fn a.tmps).run P w' = .ok x w' ∧ ∃ M', M.le M' ∧ Rel env n0 M' h' w' ∧ VR env M' v x ∧ Below n0.n w w' ∧ RO ≤ nx') → K a w') →
          PostK env n0 M ⟨args' ++ Array.replicate (fn.ntmps - args'.size) undef, []⟩ w K t σ := by
        intro t σ hl K hK
        cases σ with
        | mk h1 nx1 lg1 =>
          intro M' a' w' s b
          obtain ⟨q1, q2, x, q3, q4⟩ := results_ok hT s.rel s.tm fn s.ro hl
          subst q1 q2
          exact hK a' w' ⟨b.dfr, x, q3, M', b.le, s.rel, q4, b.bel, s.ro⟩
      cases rr with
      | bad => cases hres
      | nm t σ => exact fin t σ hres _ fun a w' hh => hh
      | ex n t σ => cases hres
      | rt t σ => exact fin t σ hres _ fun a w' hh => hh
theorem ev_snd (hT : TabOk P cx) (hp : PcOk env cx.pc) {chk : List Oper → Bool} (hF : FuOk n0 P chk cx) (hdr : ∀ n, CallOk env n0 P (callOf (ev cx n) cx) → DrawOk env n0 P chk cx (callOf (ev cx n) cx)) : ∀ n, CodeOk env n0 P chk (ev cx n)
  | 0 => fun c M h nx lg t w a res Q _ _ hres hpost => by subst hres; exact hpost.elim
  | n + 1 => by
    have ih := ev_snd hT hp hF hdr n
    have hc := call_snd hT hp hF ih
    exact code_snd hT hp ih hc (hdr n hc)
end
end Go.Vm
