/- VM: one operation of its code is the model's. -/
import Derived.Test.YtpbnbgjclalpeaaDoorVmOpJ
set_option linter.unusedVariables false
set_option linter.unusedSimpArgs false
namespace Go.Vm
open Go.RowKit

/-! ### operands -/
section
variable {env : Nat → Int} {M : Mp}
theorem ofValues_ok {f : Value → Option V} (hf : ∀ x v, f x = some v → VR env M v x) : ∀ (l : List Value) (vs : List V), ofValues f l = some vs → VRs env M vs l
  | [], vs, h => by cases h; exact .nil
  | x :: l, vs, h => by
    simp only [ofValues] at h
    cases h1 : f x with
    | none => rw [h1] at h; cases h
    | some y =>
      cases h2 : ofValues f l with
      | none => rw [h1, h2] at h; cases h
      | some ys =>
        rw [h1, h2] at h; cases h
        exact .cons _ _ _ _ (hf x y h1) (ofValues_ok hf l ys h2)
theorem ofValueD_ok : ∀ (d : Nat) (x : Value) (v : V), ofValueD d x = some v → VR env M v x := by
  have str : ∀ (s : ByteArray), VR env M (.s (RL.ofList (s.data.toList.map (·.toNat)))) (.string s) := by
    intro s
    refine .s _ _ ?_ ?_
    · rw [bytesOf, RL.toList_ofList, List.map_map]
      have : (UInt8.ofNat ∘ fun x : UInt8 => x.toNat) = id := by funext x; simp
      rw [this]; simp
    · intro n hn
      rw [RL.toList_ofList] at hn
      obtain ⟨b, _, rfl⟩ := List.mem_map.1 hn
      exact b.toNat_lt
  intro d
  induction d with
  | zero =>
    intro x v h
    cases x <;> first
      | (cases h; done)
      | (cases h; exact .b' rfl)
      | (cases h; exact .i' rfl)
      | (cases h; exact str _)
      | (cases h; exact .ni)
      | (cases h; exact .nf)
      | skip
    · rename_i a; cases a <;> first | (cases h; done) | (cases h; exact .pn)
    · rename_i a l c; cases a <;> first | (cases h; done) | (cases h; exact .sn _ _)
    · rename_i a; cases a <;> first | (cases h; done) | (cases h; exact .mn)
  | succ d ih =>
    intro x v h
    cases x <;> first
      | (cases h; done)
      | (cases h; exact .b' rfl)
      | (cases h; exact .i' rfl)
      | (cases h; exact str _)
      | (cases h; exact .ni)
      | (cases h; exact .nf)
      | skip
    · rename_i a; cases a <;> first | (cases h; done) | (cases h; exact .pn)
    · rename_i a l c; cases a <;> first | (cases h; done) | (cases h; exact .sn _ _)
    · rename_i a; cases a <;> first | (cases h; done) | (cases h; exact .mn)
    · rename_i t x
      have h : (ofValueD d x).map (V.ifc t) = some v := h
      cases hx : ofValueD d x with
      | none => rw [hx] at h; cases h
      | some y => rw [hx] at h; cases h; exact .ifc _ _ _ (ih _ _ hx)
    · rename_i cs
      have h : (ofValues (ofValueD d) cs.toList).map V.agg = some v := h
      cases hx : ofValues (ofValueD d) cs.toList with
      | none => rw [hx] at h; cases h
      | some y => rw [hx] at h; cases h; exact .agg _ _ (ofValues_ok ih _ _ hx)
    · rename_i cs
      have h : (ofValues (ofValueD d) cs.toList).map V.tup = some v := h
      cases hx : ofValues (ofValueD d) cs.toList with
      | none => rw [hx] at h; cases h
      | some y => rw [hx] at h; cases h; exact .tup _ _ (ofValues_ok ih _ _ hx)
theorem ofValue_ok (x : Value) (v : V) (h : ofValue x = some v) : VR env M v x := by
  cases x <;> first
    | exact ofValueD_ok 8 _ v h
    | (cases h; exact .b' rfl)
    | (cases h; exact .i' rfl)
end

/-- The temporaries. -/
def TmR (env : Nat → Int) (M : Mp) (t : Tm) (tmps : Array Value) : Prop := ∀ i, VR env M (orU (t.get i)) (tmps.getD i undef)
section
variable {env : Nat → Int} {M : Mp} {t : Tm} {a : Go.Act}
theorem undef_ok : VR env M undefV undef := .tup [] #[] .nil
theorem ev_ok (ht : TmR env M t a.tmps) {x : Operand} {v : V} (h : Tm.ev x t = some v) : VR env M v (a.eval x) := by
  cases x with
  | tmp i => cases h; exact ht i
  | const c => exact ofValue_ok c v h
  | global g => cases h
  | func f => cases h; exact .fn f [] [] #[] #[] .nil .nil
theorem evs_ok (ht : TmR env M t a.tmps) : ∀ (l : List Operand) (vs : List V), evs t l = some vs → VRs env M vs (l.map a.eval)
  | [], vs, h => by cases h; exact .nil
  | x :: l, vs, h => by
    simp only [evs] at h
    cases h1 : Tm.ev x t with
    | none => rw [h1] at h; cases h
    | some y =>
      cases h2 : evs t l with
      | none => rw [h1, h2] at h; cases h
      | some ys =>
        rw [h1, h2] at h; cases h
        exact .cons _ _ _ _ (ev_ok ht h1) (evs_ok ht l ys h2)
theorem evp_ok (ht : TmR env M t a.tmps) : ∀ (l : List (Nat × Operand)) (vs : List (Nat × V)), evp t l = some vs →
    vs.map (·.1) = (l.map fun p => (p.1, a.eval p.2)).map (·.1) ∧ VRs env M (vs.map (·.2)) ((l.map fun p => (p.1, a.eval p.2)).map (·.2))
  | [], vs, h => by cases h; exact ⟨rfl, .nil⟩
  | x :: l, vs, h => by
    simp only [evp] at h
    cases h1 : Tm.ev x.2 t with
    | none => rw [h1] at h; cases h
    | some y =>
      cases h2 : evp t l with
      | none => rw [h1, h2] at h; cases h
      | some ys =>
        rw [h1, h2] at h; cases h
        obtain ⟨i1, i2⟩ := evp_ok ht l ys h2
        exact ⟨by simp only [List.map_cons, i1], .cons _ _ _ _ (ev_ok ht h1) i2⟩
theorem evo_ok (ht : TmR env M t a.tmps) (x : Option Operand) (v : Option V) (h : evo t x = some v) : OptR env M v (x.map a.eval) := by
  cases x with
  | none => cases h; trivial
  | some x =>
    simp only [evo] at h
    cases h1 : Tm.ev x t with
    | none => rw [h1] at h; cases h
    | some y => rw [h1] at h; cases h; exact ev_ok ht h1
theorem TmR.mono {M' : Mp} (hM : M.le M') {tmps : Array Value} (h : TmR env M t tmps) : TmR env M' t tmps := fun i => (h i).mono hM
theorem TmR.put {dst : Option Tmp} {v : V} {x : Value} (h : TmR env M t a.tmps) (hv : VR env M v x) (hd : ∀ d, dst = some d → d < a.tmps.size) : TmR env M (putT dst v t) (a.put dst x).tmps := by
  cases dst with
  | none => exact h
  | some d =>
    intro i
    show VR env M (orU ((t.set d v).get i)) ((a.tmps.setIfInBounds d x).getD i undef)
    rw [Tr.get_set, Array.getD_eq_getD_getElem?, Array.getElem?_setIfInBounds]
    by_cases hi : i = d
    · subst hi
      rw [if_pos rfl, if_pos rfl, if_pos (hd i rfl)]
      exact hv
    · rw [if_neg hi, if_neg (fun e => hi e.symm)]
      have := h i
      rw [Array.getD_eq_getD_getElem?] at this
      exact this
end
/-- What an operation comes to, and what the model makes of it. -/
def ActR (env : Nat → Int) (n0 : Nat) (P : Program) (M : Mp) (h : Tr Ob) (w : World) (s : Sem Next) : Act → Prop
  | .bad _ => True
  | .val v => ∃ x, s.run P w = .ok (.value x) w ∧ VR env M v x
  | .pv p => ∃ s', s = (do pure (.value (← s'))) ∧ SndV env n0 P M h w p s'
  | .pu p => ∃ s' : Sem Unit, s = (do s'; pure .skip) ∧ SndU env n0 P M h w p s'
  | .call f args => ∃ args', VRs env M args args'.toList ∧ ∀ fn c, P.funcs[f]? = some fn → fn.body = some c → fn.name ≠ "runtime.NumGoroutine" → s.run P w = .ok (.enter f args') w
section
variable {env : Nat → Int} {n0 : Nat} {P : Program} {M : Mp} {h : Tr Ob} {w : World} {cx : Cx} {t : Tm} {a : Go.Act}
theorem vmin_inv {o : IOp} : ∀ {l : List V} {v : V}, vmin o l = some v → (∃ x, l = [x] ∧ v = x) ∨ (∃ k a b, l = [.i k a, .i k b] ∧ v = .i k (mkBin a o k b))
  | [], _, h => by cases h
  | [x], _, h => by cases h; exact .inl ⟨x, rfl, rfl⟩
  | [x, y], v, h => by
    replace h : vmin2 x y o = some v := h
    cases x with
    | i k a =>
      cases y with
      | i l b =>
        replace h : (match keq k l with | true => some (V.i k (mkBin a o k b)) | false => none) = some v := h
        cases hk : keq k l with
        | false => rw [hk] at h; cases h
        | true =>
          rw [hk] at h
          have := (keq_eq k l).1 hk
          subst this
          cases h
          exact .inr ⟨k, a, b, rfl, rfl⟩
      | _ => cases h
    | _ => cases h
  | _ :: _ :: _ :: _, _, h => by cases h
theorem actPv {p : Pr V} {s s' : Sem Next} {q : Sem Value} (hs : s = s') (hq : s' = (do pure (.value (← q)))) (h1 : SndV env n0 P M h w p q) : ActR env n0 P M h w s (.pv p) := ⟨q, hs.trans hq, h1⟩
theorem vop0_ok (hT : TabOk P cx) (hp : PcOk env cx.pc) (r : Rel env n0 M h w) (ht : TmR env M t a.tmps) (o : Oper) : ActR env n0 P M h w (execOp a.eval o) (vop0 o.op cx t) := by
  have one : ∀ (x : Operand) (k : V → Act) (s : Sem Next), (∀ v, Tm.ev x t = some v → VR env M v (a.eval x) → ActR env n0 P M h w s (k v)) → ActR env n0 P M h w s (o1 (Tm.ev x t) k) := by
    intro x k s hk
    cases hx : Tm.ev x t with
    | none => trivial
    | some v => exact hk v hx (ev_ok ht hx)
  have mv : ∀ (x : Operand) (s : Sem Next), s = pure (.value (a.eval x)) → ActR env n0 P M h w s (o1 (Tm.ev x t) retX) := by
    intro x s hs
    subst hs
    exact one x _ _ fun v _ hv => ⟨_, rfl, hv⟩
  obtain ⟨dst, op, ty, ps, af, g⟩ := o
  cases op with
  | move x => exact mv x _ rfl
  | assign x => exact mv x _ rfl
  | pick c x y =>
    refine one c _ _ fun v _ hv => ?_
    generalize hec : a.eval c = c' at hv
    cases hv with
    | b e =>
      show ActR env n0 P M h w _ (pickD (cx.dec e) (Tm.ev x t) (Tm.ev y t))
      cases hd : cx.dec e with
      | none => trivial
      | some b =>
        have := dec_ok hp hd
        have hev : execOp a.eval ⟨dst, .pick c x y, ty, ps, af, g⟩ = (do pure (.value (if ← asBool (a.eval c) then a.eval x else a.eval y))) := rfl
        cases b with
        | true => exact mv x _ (by rw [hev, hec, this]; rfl)
        | false => exact mv y _ (by rw [hev, hec, this]; rfl)
    | _ => trivial
  | alloc e => exact ⟨_, rfl, alloc_snd hT r e⟩
  | box e x => exact one x _ _ fun v _ hv => ⟨_, rfl, box_snd r hv e⟩
  | build bt parts =>
    show ActR env n0 P M h w _ (op1 (evp t parts.toList) fun ps => vx (vbuild (cx.ty.get bt) cx ps))
    cases he : evp t parts.toList with
    | none => trivial
    | some vs =>
      obtain ⟨h1, h2⟩ := evp_ok ht _ _ he
      exact ⟨_, rfl, build_snd hT r (by rw [h1]; simp) (by simpa using h2) bt⟩
  | buildSlice bt len parts =>
    show ActR env n0 P M h w _ (op1 (evp t parts.toList) fun ps => vx (vbuildSlice (tk cx bt) cx len ps))
    cases he : evp t parts.toList with
    | none => trivial
    | some vs =>
      obtain ⟨h1, h2⟩ := evp_ok ht _ _ he
      exact ⟨_, rfl, buildSlice_snd hT r (by rw [h1]; simp) (by simpa using h2) bt len⟩
  | load lt x => exact one x _ _ fun v _ hv => ⟨_, rfl, load_snd hT r hv lt⟩
  | store lt x y => exact one x _ _ fun v _ hv => one y _ _ fun v2 _ hv2 => ⟨_, rfl, store_snd hT r hv hv2 lt⟩
  | nilCheck x =>
    refine one x _ _ fun v _ hv => ?_
    show ActR env n0 P M h w (execOp a.eval ⟨dst, .nilCheck x, ty, ps, af, g⟩) (nilCk v)
    generalize hx : a.eval x = x' at hv
    cases hv with
    | p b o pl hM =>
      refine ⟨_, ?_, .p b o pl hM⟩
      simp only [execOp, hx]; rfl
    | _ => trivial
  | binOp op bt x y yt => exact one x _ _ fun v _ hv => one y _ _ fun v2 _ hv2 => ⟨_, rfl, binG_snd hT hp r hv hv2 op bt x y⟩
  | unOp op ut x => exact one x _ _ fun v _ hv => ⟨_, rfl, un_snd r hv op⟩
  | convert src dd x => exact one x _ _ fun v _ hv => ⟨_, rfl, convert_snd hT r hv src dd⟩
  | makeInterface it x =>
    refine one x _ _ fun v _ hv => ?_
    show ActR env n0 P M h w (do pure (.value (← Instr.makeInterface it (a.eval x)))) (ifaceA (plainK (tk cx it)) (.ifc it v))
    have hk := tk_ok hT it
    have fin : ∀ d, P.underlying it = some d → (∀ ms, d ≠ .interface ms) → ActR env n0 P M h w (do pure (.value (← Instr.makeInterface it (a.eval x)))) (.val (.ifc it v)) := by
      intro d hd hne
      refine ⟨.iface it (a.eval x), ?_, .ifc _ _ _ hv⟩
      simp only [Instr.makeInterface, Sem.run_bind, run_und hd, Result.andThen_ok]
      cases d <;> first
        | rfl
        | exact absurd rfl (hne _)
    cases hkk : tk cx it with
    | iface e => trivial
    | other => trivial
    | func => rw [hkk] at hk; obtain ⟨_, _, _, hd⟩ := hk; exact fin _ hd (by simp)
    | struct fs => rw [hkk] at hk; obtain ⟨_, hd, _⟩ := hk; exact fin _ hd (by simp)
    | _ => rw [hkk] at hk; exact fin _ hk (by simp)
  | makeFunc f xs ys =>
    cases f with
    | func f =>
      show ActR env n0 P M h w _ (op1 (evs t xs.toList) fun x => op1 (evs t ys.toList) fun y => retX (.fn f x y))
      cases hx : evs t xs.toList with
      | none => trivial
      | some vx =>
        cases hy : evs t ys.toList with
        | none => trivial
        | some vy => exact ⟨_, rfl, .fn f vx vy _ _ (by simpa using evs_ok ht _ _ hx) (by simpa using evs_ok ht _ _ hy)⟩
    | _ => trivial
  | makeMap mt rv =>
    cases rv with
    | none => exact ⟨_, rfl, makeMap_snd r mt⟩
    | some x => trivial
  | makeSlice st l c => exact one l _ _ fun v _ hv => one c _ _ fun v2 _ hv2 => ⟨_, rfl, makeSlice_snd hT r hv hv2 st⟩
  | slice st x lo hi mx =>
    refine one x _ _ fun v _ hv => ?_
    show ActR env n0 P M h w _ (op1 (evo t lo) fun lo => op1 (evo t hi) fun hi => op1 (evo t mx) fun mx => vx (mxIf (mxOk mx hi) (vslice (tk cx st) cx v lo hi mx)))
    cases h1 : evo t lo with
    | none => trivial
    | some l =>
      cases h2 : evo t hi with
      | none => trivial
      | some hh =>
        cases h3 : evo t mx with
        | none => trivial
        | some mm =>
          show ActR env n0 P M h w _ (vx (mxIf (mxOk mm hh) (vslice (tk cx st) cx v l hh mm)))
          cases hmx : mxOk mm hh with
          | false => exact ⟨Instr.sliceAt st (a.eval x) (lo.map a.eval) (hi.map a.eval) (mx.map a.eval), rfl, Snd.bad⟩
          | true =>
            refine ⟨_, rfl, slice_snd hT r hv st (evo_ok ht _ _ h1) (evo_ok ht _ _ h2) (evo_ok ht _ _ h3) ?_⟩
            intro hm
            cases mm with
            | none => cases hm
            | some m => cases hh with
              | none => cases hmx
              | some _ => rfl
  | fieldAddr st x f => exact one x _ _ fun v _ hv => ⟨_, rfl, fieldAddr_snd hT r hv st f⟩
  | field st x f => exact one x _ _ fun v _ hv => ⟨_, rfl, field_snd hT r hv st f⟩
  | indexAddr st x i => exact one x _ _ fun v _ hv => one i _ _ fun v2 _ hv2 => ⟨_, rfl, indexAddr_snd hT r hv hv2 st⟩
  | lookup st x i ok => exact one x _ _ fun v _ hv => one i _ _ fun v2 _ hv2 => ⟨_, rfl, lookup_snd hT r hv hv2 st ok⟩
  | mapUpdate st m k x => exact one m _ _ fun v _ hv => one k _ _ fun v2 _ hv2 => one x _ _ fun v3 _ hv3 => ⟨_, rfl, mapUpdate_snd hT r hv hv2 hv3 st⟩
  | insert st m k x => exact one m _ _ fun v _ hv => one k _ _ fun v2 _ hv2 => one x _ _ fun v3 _ hv3 => ⟨_, rfl, mapUpdate_snd hT r hv hv2 hv3 st⟩
  | extract x i =>
    refine one x _ _ fun v _ hv => ?_
    show ActR env n0 P M h w (do pure (.value (← Instr.extract (a.eval x) i))) (extrV v i)
    generalize hx : a.eval x = x' at hv
    cases hv with
    | tup l c hc =>
      show ActR env n0 P M h w _ (match nth l i with | some v => .val v | none => .bad 92)
      rw [nth_eq]
      cases hn : l[i]? with
      | none => trivial
      | some v =>
        obtain ⟨y, y1, y2⟩ := hc.get i v hn
        refine ⟨y, ?_, y2⟩
        have y1' : c[i]? = some y := by simpa using y1
        simp only [Instr.extract, y1', Sem.run_bind, Sem.run_pure, Result.andThen_ok]
    | _ => trivial
  | call c =>
    obtain ⟨callee, args, tys⟩ := c
    show ActR env n0 P M h w _ (op1 (evs t args.toList) fun as => calleeV callee tys.toList as cx t)
    cases he : evs t args.toList with
    | none => trivial
    | some vs =>
      have hvs := evs_ok ht _ _ he
      have hml : (args.map a.eval).toList = args.toList.map a.eval := by simp
      rw [← hml] at hvs
      show ActR env n0 P M h w _ (calleeV callee tys.toList vs cx t)
      cases callee with
      | value f =>
        refine one f _ _ fun v _ hv => ?_
        generalize hx : a.eval f = x' at hv
        cases hv with
        | fn g first cap first' cap' h1 h2 =>
          show ActR env n0 P M h w _ (.call g (RL.app1 first (RL.app1 vs cap)))
          refine ⟨first' ++ args.map a.eval ++ cap', ?_, ?_⟩
          · rw [RL.app1_eq, RL.app1_eq, Array.toList_append, Array.toList_append, List.append_assoc]
            exact h1.append (hvs.append h2)
          · intro fn c hf hb hn
            have hb' : fn.body.isNone = false := by rw [hb]; rfl
            have hn' : (fn.name == "runtime.NumGoroutine") = false := by simpa using hn
            simp only [execOp, resolve, hx, Deferred.ofValue, pure_bind, invoke, callFunc, Sem.run_bind, run_program, Result.andThen_ok, hf, hn', hb', Bool.false_eq_true, if_false, Sem.run_pure]
        | _ => trivial
      | invoke rv nm => trivial
      | builtin b =>
        have two : ∀ {x y : V}, VRs env M [x, y] (args.map a.eval).toList → ∃ x' y', args.map a.eval = #[x', y'] ∧ VR env M x x' ∧ VR env M y y' := by
          intro x y hh
          generalize hl : (args.map a.eval).toList = l at hh
          cases hh with
          | cons _ x' _ _ h1 h2 => cases h2 with
            | cons _ y' _ _ h3 h4 => cases h4; exact ⟨x', y', by rw [← Array.toList_inj]; rw [hl], h1, h3⟩
        have one1 : ∀ {x : V}, VRs env M [x] (args.map a.eval).toList → ∃ x', args.map a.eval = #[x'] ∧ VR env M x x' := by
          intro x hh
          generalize hl : (args.map a.eval).toList = l at hh
          cases hh with
          | cons _ x' _ _ h1 h2 => cases h2; exact ⟨x', by rw [← Array.toList_inj]; rw [hl], h1⟩
        cases b with
        | append =>
          match hty : tys.toList, vs, hvs with
          | s :: x :: rest, [p, q], hvs =>
            obtain ⟨p', q', e1, e2, e3⟩ := two hvs
            refine ⟨Builtin.append_ tys ty #[p', q'], ?_, append_snd hT r e2 e3 hty ty⟩
            rw [← e1]; rfl
          | [], _, _ => trivial
          | [_], _, _ => trivial
          | _ :: _ :: _, [], _ => trivial
          | _ :: _ :: _, [_], _ => trivial
          | _ :: _ :: _, _ :: _ :: _ :: _, _ => trivial
        | copy =>
          match hty : tys.toList, vs, hvs with
          | s :: rest, [p, q], hvs =>
            obtain ⟨p', q', e1, e2, e3⟩ := two hvs
            refine ⟨Builtin.copy_ tys ty #[p', q'], ?_, copy_snd hT r e2 e3 hty ty⟩
            rw [← e1]; rfl
          | [], _, _ => trivial
          | _ :: _, [], _ => trivial
          | _ :: _, [_], _ => trivial
          | _ :: _, _ :: _ :: _ :: _, _ => trivial
        | len =>
          match hty : tys.toList, vs, hvs with
          | s :: rest, [p], hvs =>
            obtain ⟨p', e1, e2⟩ := one1 hvs
            refine ⟨Builtin.len_ tys ty #[p'], ?_, len_snd hT r e2 hty ty⟩
            rw [← e1]; rfl
          | [], _, _ => trivial
          | _ :: _, [], _ => trivial
          | _ :: _, _ :: _ :: _, _ => trivial
        | cap =>
          match hty : tys.toList, vs, hvs with
          | s :: rest, [p], hvs =>
            obtain ⟨p', e1, e2⟩ := one1 hvs
            refine ⟨Builtin.cap_ tys ty #[p'], ?_, cap_snd hT r e2 hty ty⟩
            rw [← e1]; rfl
          | [], _, _ => trivial
          | _ :: _, [], _ => trivial
          | _ :: _, _ :: _ :: _, _ => trivial
        | delete =>
          match hty : tys.toList, vs, hvs with
          | s :: rest, [p, q], hvs =>
            obtain ⟨p', q', e1, e2, e3⟩ := two hvs
            refine ⟨Builtin.delete_ tys ty #[p', q'], ?_, delete_snd hT r e2 e3 hty ty⟩
            rw [← e1]; rfl
          | [], _, _ => trivial
          | _ :: _, [], _ => trivial
          | _ :: _, [_], _ => trivial
          | _ :: _, _ :: _ :: _ :: _, _ => trivial
        | clear =>
          match hty : tys.toList, vs, hvs with
          | s :: rest, [p], hvs =>
            obtain ⟨p', e1, e2⟩ := one1 hvs
            refine ⟨Builtin.clear_ tys ty #[p'], ?_, clear_snd hT r e2 hty ty⟩
            rw [← e1]; rfl
          | [], _, _ => trivial
          | _ :: _, [], _ => trivial
          | _ :: _, _ :: _ :: _, _ => trivial
        | min =>
          show ActR env n0 P M h w _ (o1 (vmin .min vs) retX)
          cases hvm : vmin .min vs with
          | none => trivial
          | some v =>
            show ActR env n0 P M h w (do pure (.value (← Builtin.min_ tys ty (args.map a.eval)))) (.val v)
            rcases vmin_inv hvm with ⟨x, rfl, rfl⟩ | ⟨k, x, y, rfl, rfl⟩
            · obtain ⟨p', e1, e2⟩ := one1 hvs
              exact ⟨p', by rw [e1]; rfl, e2⟩
            · obtain ⟨p', q', e1, e2, e3⟩ := two hvs
              cases e2; cases e3
              refine ⟨.int k (if y.den env < x.den env then y.den env else x.den env), ?_, VR.i' ?_⟩
              · rw [e1]; rfl
              · rw [mkBin_den]
                show (match iltb (y.den env) (x.den env) with | true => _ | false => _) = _
                rw [iltb_eq]
                by_cases hlt : y.den env < x.den env
                · rw [if_pos hlt, decide_eq_true hlt]
                · rw [if_neg hlt, decide_eq_false hlt]
        | max =>
          show ActR env n0 P M h w _ (o1 (vmin .max vs) retX)
          cases hvm : vmin .max vs with
          | none => trivial
          | some v =>
            show ActR env n0 P M h w (do pure (.value (← Builtin.max_ tys ty (args.map a.eval)))) (.val v)
            rcases vmin_inv hvm with ⟨x, rfl, rfl⟩ | ⟨k, x, y, rfl, rfl⟩
            · obtain ⟨p', e1, e2⟩ := one1 hvs
              exact ⟨p', by rw [e1]; rfl, e2⟩
            · obtain ⟨p', q', e1, e2, e3⟩ := two hvs
              cases e2; cases e3
              refine ⟨.int k (if y.den env > x.den env then y.den env else x.den env), ?_, VR.i' ?_⟩
              · rw [e1]; rfl
              · rw [mkBin_den]
                show (match iltb (x.den env) (y.den env) with | true => _ | false => _) = _
                rw [iltb_eq]
                by_cases hlt : x.den env < y.den env
                · rw [if_pos hlt, decide_eq_true hlt]
                · rw [if_neg hlt, decide_eq_false hlt]
        | _ => trivial
  | _ => trivial
theorem valOf_ok : ∀ {pc : List (BE × Bool)} (_ : PcOk env pc) {e : IE} {n : Int}, valOf pc e = some n → e.den env = n := by
  intro pc
  induction pc with
  | nil => intro _ e n h; cases h
  | cons x pc ih =>
    intro hp e n h
    have rest : valOf pc e = some n → e.den env = n := ih fun y hy => hp y (List.mem_cons_of_mem _ hy)
    have hx := hp x List.mem_cons_self
    obtain ⟨b, c⟩ := x
    cases b with
    | eq a d =>
      cases d with
      | c m =>
        cases c with
        | true =>
          have h : (match IE.beq a e with | true => some m | false => valOf pc e) = some n := h
          cases hb : IE.beq a e with
          | false => rw [hb] at h; exact rest h
          | true =>
            rw [hb] at h
            cases h
            rw [← IE.beq_eq a e hb]
            have hx : ieqb (a.den env) n = true := hx
            rw [ieqb_eq] at hx
            exact (beq_iff_eq (α := Int)).1 hx
        | false => exact rest h
      | _ => exact rest h
    | _ => exact rest h
theorem nrmV_ok {pc : List (BE × Bool)} (hp : PcOk env pc) {v : V} {x : Value} (hv : VR env M v x) : VR env M (nrmV v pc) x := by
  cases hv with
  | i k e =>
    have hi : VR env M (nrmI k e (valOf pc e)) (.int k (e.den env)) := by
      cases h : valOf pc e with
      | none => exact .i k e
      | some n => exact VR.i' (valOf_ok hp h).symm
    cases e with
    | c n => exact .i k (.c n)
    | _ => exact hi
  | b e =>
    show VR env M (nrmB e (decE e pc)) _
    cases h : decE e pc with
    | none => exact .b e
    | some b => exact VR.b' (dec_ok (cx := { ty := .nil, fu := .nil, pc := pc }) hp h).symm
  | s r s h1 h2 => exact .s r s h1 h2
  | pn => exact .pn
  | p b o pl e => exact .p b o pl e
  | sn l c => exact .sn l c
  | sl b o l c c' pl a e h1 h2 h3 h4 => exact .sl b o l c c' pl a e h1 h2 h3 h4
  | mn => exact .mn
  | m r pl e => exact .m r pl e
  | fn f a c a' c' h1 h2 => exact .fn f a c a' c' h1 h2
  | nf => exact .nf
  | ni => exact .ni
  | ifc t x x' h => exact .ifc t x x' h
  | agg l c h => exact .agg l c h
  | tup l c h => exact .tup l c h
theorem nrmP_run (pc : List (BE × Bool)) (p : Pr V) : ∀ h nx lg, (nrmP pc p).run h nx lg = Rs.rec .bad (fun v σ => .ok (nrmV v pc) σ) (p.run h nx lg) := by
  have row : ∀ (o : Option Ob) (k k' : TypeId → Nat → Bool → RL V → Rs V), (∀ a b c d, k' a b c d = Rs.rec .bad (fun v σ => .ok (nrmV v pc) σ) (k a b c d)) →
      asRow .bad k' o = Rs.rec .bad (fun v σ => .ok (nrmV v pc) σ) (asRow .bad k o) := by
    intro o k k' hk
    cases o with
    | none => rfl
    | some o =>
      cases o with
      | map es => rfl
      | cells el es ex live cs =>
        cases live with
        | false => rfl
        | true => exact hk el es ex cs
  have mp : ∀ (o : Option Ob) (k k' : List (V × V) → Rs V), (∀ a, k' a = Rs.rec .bad (fun v σ => .ok (nrmV v pc) σ) (k a)) →
      asMap .bad k' o = Rs.rec .bad (fun v σ => .ok (nrmV v pc) σ) (asMap .bad k o) := by
    intro o k k' hk
    cases o with
    | none => rfl
    | some o =>
      cases o with
      | map es => exact hk es
      | cells el es ex live cs => rfl
  have bl : ∀ (c : Bool) (x y : Rs V), y = Rs.rec .bad (fun v σ => .ok (nrmV v pc) σ) x → (Bool.rec .bad y c : Rs V) = Rs.rec .bad (fun v σ => .ok (nrmV v pc) σ) (Bool.rec .bad x c : Rs V) := by
    intro c x y e
    cases c with
    | false => rfl
    | true => exact e
  have rd : ∀ (lg : Lg) (b : Nat) (k k' : Lg → Rs V), (∀ l, k' l = Rs.rec .bad (fun v σ => .ok (nrmV v pc) σ) (k l)) → lg.rdK b k' = Rs.rec .bad (fun v σ => .ok (nrmV v pc) σ) (lg.rdK b k) := by
    intro lg b k k' hk
    rw [rdK_eq, rdK_eq]
    exact hk _
  have wr : ∀ (lg : Lg) (b : Nat) (k k' : Lg → Rs V), (∀ l, k' l = Rs.rec .bad (fun v σ => .ok (nrmV v pc) σ) (k l)) → lg.wrK b k' = Rs.rec .bad (fun v σ => .ok (nrmV v pc) σ) (lg.wrK b k) := by
    intro lg b k k' hk
    rw [wrK_eq, wrK_eq]
    exact hk _
  induction p with
  | ret a => intro h nx lg; rfl
  | bad n => intro h nx lg; rfl
  | cell b o k ih =>
    intro h nx lg
    refine row _ _ _ fun _ _ _ cs => ?_
    cases cs.get o with
    | none => rfl
    | some v => exact rd _ _ _ _ fun l => ih v h nx l
  | setc b o v k ih => intro h nx lg; exact row _ _ _ fun _ _ _ cs => bl _ _ _ (bl _ _ _ (bl _ _ _ (wr _ _ _ _ fun l => ih _ _ l)))
  | rows b lo n k ih => intro h nx lg; exact row _ _ _ fun _ _ _ cs => bl _ _ _ (rd _ _ _ _ fun l => ih _ _ _ l)
  | sets b lo cs k ih => intro h nx lg; exact row _ _ _ fun _ _ _ cs => bl _ _ _ (bl _ _ _ (bl _ _ _ (wr _ _ _ _ fun l => ih _ _ l)))
  | info b k ih => intro h nx lg; exact row _ _ _ fun _ _ _ cs => rd _ _ _ _ fun l => ih _ _ _ _ _ l
  | new o k ih =>
    intro h nx lg
    show (Option.rec ((nrmP pc (k nx)).run (h.set nx o) (Nat.succ nx) lg) (fun _ => .bad) (h.get nx) : Rs V) = Rs.rec .bad (fun v σ => .ok (nrmV v pc) σ) (Option.rec ((k nx).run (h.set nx o) (Nat.succ nx) lg) (fun _ => .bad) (h.get nx) : Rs V)
    cases h.get nx with
    | none => exact ih nx _ _ _
    | some _ => rfl
  | kill b k ih => intro h nx lg; exact row _ _ _ fun _ _ _ cs => bl _ _ _ (wr _ _ _ _ fun l => ih _ _ l)
  | getM r k ih => intro h nx lg; exact mp _ _ _ fun es => rd _ _ _ _ fun l => ih _ _ _ l
  | setM r es k ih => intro h nx lg; exact mp _ _ _ fun _ => bl _ _ _ (wr _ _ _ _ fun l => ih _ _ l)
theorem nrmP_snd {pc : List (BE × Bool)} (hp : PcOk env pc) {p : Pr V} {s : Sem Value} (hs : SndV env n0 P M h w p s) : SndV env n0 P M h w (nrmP pc p) s := by
  intro nx lg v h' nx' lg' hro hrun
  rw [nrmP_run] at hrun
  cases hr : p.run h nx lg with
  | bad => rw [hr] at hrun; cases hrun
  | ok u σ =>
    rw [hr] at hrun
    cases hrun
    obtain ⟨M', w', x, q1, q2, q3, q4, q5, q6⟩ := hs nx lg u h' nx' lg' hro hr
    exact ⟨M', w', x, q1, q2, q3, nrmV_ok hp q4, q5, q6⟩
theorem nrmA_ok {pc : List (BE × Bool)} (hp : PcOk env pc) {s : Sem Next} {A : Act} (hA : ActR env n0 P M h w s A) : ActR env n0 P M h w s (nrmA A pc) := by
  cases pc with
  | nil => exact hA
  | cons x r =>
    cases A with
    | val v => obtain ⟨y, h1, h2⟩ := hA; exact ⟨y, h1, nrmV_ok hp h2⟩
    | pv p => obtain ⟨y, h1, h2⟩ := hA; exact ⟨y, h1, nrmP_snd hp h2⟩
    | _ => exact hA
theorem vop_ok (hT : TabOk P cx) (hp : PcOk env cx.pc) (r : Rel env n0 M h w) (ht : TmR env M t a.tmps) (o : Oper) : ActR env n0 P M h w (execOp a.eval o) (vop o.op cx t) :=
  nrmA_ok hp (vop0_ok hT hp r ht o)
end
end Go.Vm
