/- VM: what a run of code reads and writes is all that it hangs on. -/
import Derived.Test.YtpbnbgjclalpeaaDoorVmLoc
set_option linter.unusedVariables false
set_option linter.unusedSimpArgs false
namespace Go.Vm
/-- What comes of code, without the state. -/
inductive Oc
  | nm (t : Tm)
  | ex (n : Nat) (t : Tm)
  | rt (t : Tm)
def R.rs : R → Rs Oc
  | .bad => .bad
  | .nm t σ => .ok (.nm t) σ
  | .ex n t σ => .ok (.ex n t) σ
  | .rt t σ => .ok (.rt t) σ
noncomputable def rF (F : Tm → St → R) (t : Tm) : RunT Oc := fun h nx lg => (F t (.mk h nx lg)).rs
noncomputable def cF (call : CallT) (f : FuncId) (args : List V) : RunT V := fun h nx lg => call f args (.mk h nx lg)
def LocE (F : Tm → St → R) : Prop := ∀ t, Loc (rF F t)
def LocC (call : CallT) : Prop := ∀ f args, Loc (cF call f args)
/-- An operation's run. -/
noncomputable def opX (call : CallT) : Act → RunT V
  | .bad _ => fun _ _ _ => .bad
  | .val x => fun h nx lg => .ok x (.mk h nx lg)
  | .pv p => p.run
  | .pu p => bindR p.run (fun _ h nx lg => .ok undefV (.mk h nx lg))
  | .call f args => cF call f args
theorem act_eq (call : CallT) (d : Option Tmp) (t : Tm) (h : Tr Ob) (nx : Nat) (lg : Lg) (k : Tm → St → R) (A : Act) :
    act call d t (.mk h nx lg) k A = (match opX call A h nx lg with | .bad => .bad | .ok x σ => k (putT d x t) σ) := by
  cases A with
  | bad n => rfl
  | val x => rfl
  | pv p =>
    show aftP d t k (p.run h nx lg) = (match p.run h nx lg with | .bad => .bad | .ok x σ => k (putT d x t) σ)
    cases p.run h nx lg <;> rfl
  | pu p =>
    show aftU d t k (p.run h nx lg) = (match bindR p.run (fun _ h nx lg => .ok undefV (.mk h nx lg)) h nx lg with | .bad => .bad | .ok x σ => k (putT d x t) σ)
    unfold bindR
    cases p.run h nx lg with
    | bad => rfl
    | ok a σ => cases σ; rfl
  | call f args =>
    show aftP d t k (call f args (.mk h nx lg)) = (match call f args (.mk h nx lg) with | .bad => .bad | .ok x σ => k (putT d x t) σ)
    cases call f args (.mk h nx lg) <;> rfl
theorem opX_loc {call : CallT} (hc : LocC call) (A : Act) : Loc (opX call A) := by
  cases A with
  | bad n => exact Loc.bad
  | val x => exact Loc.ret x
  | pv p => exact pr_loc p
  | pu p => exact Loc.bind (pr_loc p) fun _ => Loc.ret undefV
  | call f args => exact hc f args
theorem act_loc {call : CallT} (hc : LocC call) (d : Option Tmp) (t : Tm) {k : Tm → St → R} (hk : LocE k) (A : Act) : Loc (fun h nx lg => (act call d t (.mk h nx lg) k A).rs) := by
  refine Loc.congr (fun h nx lg => ?_) (Loc.bind (opX_loc hc A) fun x => hk (putT d x t))
  rw [act_eq]
  unfold bindR
  cases opX call A h nx lg with
  | bad => rfl
  | ok x σ => cases σ; rfl
theorem wantR_rs (x : Option Bool) (no yes : R) : (wantR x no yes).rs = match x with | none => .bad | some false => no.rs | some true => yes.rs := by
  cases x with
  | none => rfl
  | some c => cases c <;> rfl
theorem evOps_loc {call : CallT} (hc : LocC call) (cx : Cx) (ops : List Oper) : ∀ l : List Oper, LocE (evOps call cx ops l)
  | [] => fun t => Loc.ret (Oc.nm t)
  | o :: l => by
    intro t
    have ih := evOps_loc hc cx ops l
    refine Loc.congr (G := fun h nx lg => match wanted o.guard ops cx t with | none => .bad | some false => rF (evOps call cx ops l) (putT o.dst undefV t) h nx lg | some true => (act call o.dst t (.mk h nx lg) (evOps call cx ops l) (vop o.op cx t)).rs) (fun h nx lg => ?_) ?_
    · unfold rF
      rw [evOps_cons, wantR_rs]
    · cases wanted o.guard ops cx t with
      | none => exact Loc.bad
      | some c => cases c with
        | false => exact ih _
        | true => exact act_loc hc o.dst t ih _

/-! ### regions that are drawn -/
theorem Loc.at {α : Type} {F : Nat → RunT α} (h : ∀ n, Loc (F n)) : Loc (fun g nx lg => F nx g nx lg) := fun g nx lg => h nx g nx lg
structure Mk (α : Type) where
  val : α
  rd : Nat
  wr : Nat
  lo : Nat
  hi : Nat
/-- A run, and what it reads and writes. -/
noncomputable def markF {α : Type} (X : RunT α) : RunT (Mk α) := fun h nx lg => match X h nx (.on 0 0) with
  | .ok v (.mk h1 nx1 (.on rd wr)) => .ok ⟨v, rd, wr, nx, nx1⟩ (.mk h1 nx1 (lg.cat rd wr))
  | _ => .bad
theorem markF_loc {α : Type} {X : RunT α} (hX : Loc X) : Loc (markF X) := by
  intro h nx lg a h' nx' lg' e
  unfold markF at e
  cases hx : X h nx (.on 0 0) with
  | bad => rw [hx] at e; cases e
  | ok v σ =>
    cases σ with
    | mk h1 nx1 lg1 =>
      obtain ⟨rd, wr, q1, q2, q3, q4⟩ := hX _ _ _ _ _ _ _ hx
      rw [hx] at e
      rw [q1, Lg.cat_eq] at e
      simp only [Nat.or_zero] at e
      cases e
      refine ⟨rd, wr, rfl, q2, q3, fun g hg => ?_⟩
      obtain ⟨g', k1, k2⟩ := q4 g hg
      refine ⟨g', fun lg => ?_, k2⟩
      unfold markF
      rw [k1, Lg.cat_eq]
      simp only [Nat.or_zero]
noncomputable def DrF (call : CallT) (cx : Cx) (ops : List Oper) : List Oper → List Fp → Tm → RunT Oc
  | [], fps, t => fun h nx lg => match okDr fps (befs ops [] 0) fps.length with
    | true => .ok (.nm t) (.mk h nx lg)
    | false => .bad
  | o :: l, fps, t => match wanted o.guard ops cx t with
    | none => fun _ _ _ => .bad
    | some false => fun h nx lg => DrF call cx ops l (.mk 0 0 nx nx :: fps) (putT o.dst undefV t) h nx lg
    | some true => bindR (markF (opX call (vop o.op cx t))) fun m => DrF call cx ops l (.mk m.rd m.wr m.lo m.hi :: fps) (putT o.dst m.val t)
theorem DrF_loc {call : CallT} (hc : LocC call) (cx : Cx) (ops : List Oper) : ∀ (l : List Oper) (fps : List Fp) (t : Tm), Loc (DrF call cx ops l fps t)
  | [], fps, t => by
    unfold DrF
    cases okDr fps (befs ops [] 0) fps.length with
    | true => exact Loc.ret _
    | false => exact Loc.bad
  | o :: l, fps, t => by
    unfold DrF
    cases wanted o.guard ops cx t with
    | none => exact Loc.bad
    | some c => cases c with
      | false => exact Loc.at fun n => DrF_loc hc cx ops l (.mk 0 0 n n :: fps) (putT o.dst undefV t)
      | true => exact Loc.bind (markF_loc (opX_loc hc _)) fun m => DrF_loc hc cx ops l (.mk m.rd m.wr m.lo m.hi :: fps) (putT o.dst m.val t)
theorem catR_eq (f : Fp) (l : List Fp) (r : Nat) : catR (f :: l) r = (match f with | .mk rd _ _ _ => rd ||| catR l r) := by cases f; rfl
theorem catW_eq (f : Fp) (l : List Fp) (r : Nat) : catW (f :: l) r = (match f with | .mk _ wr _ _ => wr ||| catW l r) := by cases f; rfl
theorem catR_app (l : List Fp) : ∀ r, catR l r = catR l 0 ||| r := by
  induction l with
  | nil => intro r; show r = 0 ||| r; simp
  | cons f l ih => intro r; rw [catR_eq, catR_eq]; cases f; simp only; rw [ih r, Nat.or_assoc]
theorem catW_app (l : List Fp) : ∀ r, catW l r = catW l 0 ||| r := by
  induction l with
  | nil => intro r; show r = 0 ||| r; simp
  | cons f l ih => intro r; rw [catW_eq, catW_eq]; cases f; simp only; rw [ih r, Nat.or_assoc]
theorem catK_eq {β : Type} (fps : List Fp) (lg : Lg) (k : Lg → β) : catK fps lg k = k (lg.cat (catR fps 0) (catW fps 0)) := by
  rw [Lg.cat_eq]
  cases lg with
  | off => rfl
  | on r w =>
    show forceN (catR fps r) (fun r => forceN (catW fps w) fun w => k (.on r w)) = _
    rw [forceN_eq, forceN_eq, catR_app, catW_app fps w]
theorem evDr_cons (call : CallT) (cx : Cx) (ops : List Oper) (lg : Lg) (o : Oper) (l : List Oper) (fps : List Fp) (t : Tm) (h : Tr Ob) (nx : Nat) :
    evDr call cx ops lg (o :: l) fps t h nx = wantR (wanted o.guard ops cx t) (evDr call cx ops lg l (.mk 0 0 nx nx :: fps) (putT o.dst undefV t) h nx) (act call o.dst t (.mk h nx (.on 0 0)) (drK nx (evDr call cx ops lg l) fps) (vop o.op cx t)) := by
  cases o; rfl
theorem evDr_eq {call : CallT} (hc : LocC call) (cx : Cx) (ops : List Oper) (lg : Lg) : ∀ (l : List Oper) (fps : List Fp) (t : Tm) (h : Tr Ob) (nx : Nat),
    (evDr call cx ops lg l fps t h nx).rs = DrF call cx ops l fps t h nx (lg.cat (catR fps 0) (catW fps 0))
  | [], fps, t, h, nx => by
    show R.rs (Bool.rec .bad (catK fps lg (fun lg => .nm t (.mk h nx lg))) (okDr fps (befs ops [] 0) fps.length)) = (match okDr fps (befs ops [] 0) fps.length with | true => .ok (.nm t) (.mk h nx (lg.cat (catR fps 0) (catW fps 0))) | false => .bad)
    rw [catK_eq]
    cases okDr fps (befs ops [] 0) fps.length <;> rfl
  | o :: l, fps, t, h, nx => by
    rw [evDr_cons, wantR_rs]
    unfold DrF
    cases wanted o.guard ops cx t with
    | none => rfl
    | some c => cases c with
      | false =>
        show (evDr call cx ops lg l (.mk 0 0 nx nx :: fps) (putT o.dst undefV t) h nx).rs = DrF call cx ops l (.mk 0 0 nx nx :: fps) (putT o.dst undefV t) h nx (lg.cat (catR fps 0) (catW fps 0))
        rw [evDr_eq hc cx ops lg l, catR_eq, catW_eq]
        simp only [Nat.zero_or]
      | true =>
        show (act call o.dst t (.mk h nx (.on 0 0)) (drK nx (evDr call cx ops lg l) fps) (vop o.op cx t)).rs = bindR (markF (opX call (vop o.op cx t))) (fun m => DrF call cx ops l (.mk m.rd m.wr m.lo m.hi :: fps) (putT o.dst m.val t)) h nx (lg.cat (catR fps 0) (catW fps 0))
        rw [act_eq]
        unfold bindR markF
        cases hx : opX call (vop o.op cx t) h nx (.on 0 0) with
        | bad => rfl
        | ok v σ =>
          cases σ with
          | mk h1 nx1 lg1 =>
            cases lg1 with
            | off => rfl
            | on rd wr =>
              show (evDr call cx ops lg l (.mk rd wr nx nx1 :: fps) (putT o.dst v t) h1 nx1).rs = DrF call cx ops l (.mk rd wr nx nx1 :: fps) (putT o.dst v t) h1 nx1 ((lg.cat (catR fps 0) (catW fps 0)).cat rd wr)
              rw [evDr_eq hc cx ops lg l, Lg.cat_cat, catR_eq, catW_eq]
theorem evReg_loc {call : CallT} (hc : LocC call) (cx : Cx) (ops : List Oper) (draw : Bool) : LocE (evReg draw call cx ops) := by
  intro t
  cases draw with
  | false => exact evOps_loc hc cx ops ops t
  | true =>
    refine Loc.congr (fun h nx lg => ?_) (DrF_loc hc cx ops ops [] t)
    show (evDr call cx ops lg ops [] t h nx).rs = _
    rw [evDr_eq hc]
    show DrF call cx ops ops [] t h nx (lg.cat 0 0) = _
    rw [Lg.cat_nil]
/-! ### control and calls -/
theorem seqK_loc {F : RunT Oc} {r : Tr Ob → Nat → Lg → R} (hr : ∀ h nx lg, (r h nx lg).rs = F h nx lg) (hF : Loc F) {k : Tm → St → R} (hk : LocE k) : Loc (fun h nx lg => (seqK k (r h nx lg)).rs) := by
  refine Loc.congr (G := bindR F fun o => match o with | .nm t => rF k t | .ex n t => fun h nx lg => .ok (.ex n t) (.mk h nx lg) | .rt t => fun h nx lg => .ok (.rt t) (.mk h nx lg)) (fun h nx lg => ?_) (Loc.bind hF fun o => ?_)
  · unfold bindR
    rw [← hr]
    cases r h nx lg with
    | bad => rfl
    | nm t σ => cases σ; rfl
    | ex n t σ => cases σ; rfl
    | rt t σ => cases σ; rfl
  · cases o with
    | nm t => exact hk t
    | ex n t => exact Loc.ret _
    | rt t => exact Loc.ret _
theorem blockK_loc {F : RunT Oc} {r : Tr Ob → Nat → Lg → R} (hr : ∀ h nx lg, (r h nx lg).rs = F h nx lg) (hF : Loc F) (id : Nat) : Loc (fun h nx lg => (blockK id (r h nx lg)).rs) := by
  refine Loc.congr (G := bindR F fun o h nx lg => .ok (match o with | .nm t => .nm t | .ex n t => (match Nat.beq n id with | true => .nm t | false => .ex n t) | .rt t => .rt t) (.mk h nx lg)) (fun h nx lg => ?_) (Loc.bind hF fun o => Loc.ret _)
  unfold bindR
  rw [← hr]
  cases r h nx lg with
  | bad => rfl
  | nm t σ => cases σ; rfl
  | rt t σ => cases σ; rfl
  | ex n t σ =>
    cases σ
    show R.rs (Bool.rec (.ex n t _) (.nm t _) (Nat.beq n id)) = .ok (match Nat.beq n id with | true => .nm t | false => .ex n t) _
    cases Nat.beq n id <;> rfl
theorem loadRes_loc (cx : Cx) (t : Tm) : ∀ (rs : List ResultVar) (acc : List V), Loc (fun h nx lg => loadRes cx t rs acc (.mk h nx lg))
  | [], acc => Loc.ret _
  | .tmp i :: rs, acc => loadRes_loc cx t rs (orU (t.get i) :: acc)
  | .cell a ty :: rs, acc => by
    refine Loc.congr (fun h nx lg => ?_) (Loc.bind (pr_loc (vload (orU (t.get a)) cx ty)) fun v => loadRes_loc cx t rs (v :: acc))
    show (Rs.rec .bad (fun v σ => loadRes cx t rs (v :: acc) σ) ((vload (orU (t.get a)) cx ty).run h nx lg) : Rs (List V)) = _
    unfold bindR
    cases (vload (orU (t.get a)) cx ty).run h nx lg with
    | bad => rfl
    | ok v σ => cases σ; rfl
theorem packR_loc {F : RunT (List V)} (hF : Loc F) : Loc (fun h nx lg => packR (F h nx lg)) := by
  refine Loc.congr (fun h nx lg => ?_) (Loc.bind hF fun vs => Loc.ret (packV vs))
  unfold bindR
  cases F h nx lg with
  | bad => rfl
  | ok v σ => cases σ; rfl
theorem call_loc {ev : EvT} (hev : ∀ c, LocE (ev c)) (cx : Cx) : LocC (callOf ev cx) := by
  intro f args
  show Loc (fun h nx lg => callFu ev cx args (.mk h nx lg) (cx.fu.get f))
  cases cx.fu.get f with
  | none => exact Loc.bad
  | some fu =>
    cases fu with
    | mk n res body =>
      refine Loc.congr (G := bindR (rF (ev body) (argsTm args 0 .nil)) fun o => match o with | .nm t => fun h nx lg => packR (loadRes cx t res [] (.mk h nx lg)) | .ex _ _ => fun _ _ _ => .bad | .rt t => fun h nx lg => packR (loadRes cx t res [] (.mk h nx lg))) (fun h nx lg => ?_) (Loc.bind (hev body _) fun o => ?_)
      · show retOf cx res (ev body (argsTm args 0 .nil) (.mk h nx lg)) = _
        unfold bindR rF
        cases ev body (argsTm args 0 .nil) (.mk h nx lg) with
        | bad => rfl
        | nm t σ => cases σ; rfl
        | ex n t σ => cases σ; rfl
        | rt t σ => cases σ; rfl
      · cases o with
        | nm t => exact packR_loc (loadRes_loc cx t res [])
        | ex n t => exact Loc.bad
        | rt t => exact packR_loc (loadRes_loc cx t res [])
    | const b =>
      cases args with
      | nil => exact Loc.ret (V.b (.c b))
      | cons x l => exact Loc.bad
theorem evC_loc {ev : EvT} (hev : ∀ c, LocE (ev c)) (cx : Cx) (c : Code) : LocE (evC c ev cx) := by
  intro t
  cases c with
  | skip => exact Loc.ret _
  | region id ops draw => exact evReg_loc (call_loc hev cx) cx ops.toList draw t
  | seq a b => exact seqK_loc (F := rF (ev a) t) (fun _ _ _ => rfl) (hev a t) (hev b)
  | cond c a b =>
    show Loc (fun h nx lg => (condV (Tm.ev c t) cx (ev a t (.mk h nx lg)) (ev b t (.mk h nx lg))).rs)
    cases Tm.ev c t with
    | none => exact Loc.bad
    | some v =>
      cases v with
      | b e =>
        show Loc (fun h nx lg => (condD (cx.dec e) (ev a t (.mk h nx lg)) (ev b t (.mk h nx lg))).rs)
        cases cx.dec e with
        | none => exact Loc.bad
        | some x => cases x with
          | true => exact hev a t
          | false => exact hev b t
      | _ => exact Loc.bad
  | block id b => exact blockK_loc (F := rF (ev b) t) (fun _ _ _ => rfl) (hev b t) id
  | loop b => exact seqK_loc (F := rF (ev b) t) (fun _ _ _ => rfl) (hev b t) (hev (.loop b))
  | exit m => exact Loc.ret _
  | scope b => exact hev b t
  | ret => exact Loc.ret _
  | _ => exact Loc.bad
theorem ev_loc (cx : Cx) : ∀ (n : Nat) (c : Code), LocE (ev cx n c)
  | 0, _ => fun _ => Loc.bad
  | n + 1, c => evC_loc (ev_loc cx n) cx c
end Go.Vm
