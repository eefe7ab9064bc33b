/- VM: an evaluator of the model's code, and that what it answers the model answers (Prog Tree Match Fb Nums Args Rot). -/
import Derived.Test.YtfjnhdbbjggkmaaVmDraw
import GoSem.ClaimJoined
set_option linter.unusedVariables false
set_option linter.unusedSimpArgs false
namespace Go.Vm
theorem ofList_get {α : Type} : ∀ (l : List α) (n : Nat) (t : Tr α) (i : Nat) (a : α), (Tr.ofList l n t).get i = some a → (n ≤ i ∧ l[i - n]? = some a) ∨ t.get i = some a
  | [], n, t, i, a, h => .inr h
  | x :: l, n, t, i, a, h => by
    have h : (Tr.ofList l (n + 1) (t.set n x)).get i = some a := h
    rcases ofList_get l (n + 1) _ i a h with ⟨h1, h2⟩ | h2
    · refine .inl ⟨by omega, ?_⟩
      rw [show i - n = (i - (n + 1)) + 1 by omega]
      exact h2
    · rw [Tr.get_set] at h2
      by_cases e : i = n
      · rw [if_pos e] at h2
        refine .inl ⟨by omega, ?_⟩
        rw [show i - n = 0 by omega]
        exact h2
      · rw [if_neg e] at h2; exact .inr h2
theorem ti_ok {P : Program} {t : TypeId} {i : TypeInfo} (hi : P.info? t = some i) {d : TypeDesc} (hd : P.underlying t = some d) : TyOk P t (tiOf P t i) := by
  refine ⟨⟨i, hi, rfl, rfl, fun z hz => ?_⟩, ⟨d, hd, ?_⟩, ?_, ?_⟩
  · have hz : i.zero.bind (ofValueD 8) = some z := hz
    cases hx : i.zero with
    | none => rw [hx] at hz; cases hz
    | some x => rw [hx] at hz; exact ⟨x, rfl, fun env M => ofValueD_ok 8 x z hz⟩
  · show agOf d = tkAg (tkOf P t)
    unfold tkOf
    rw [hd]
    cases d <;> rfl
  · show KOk P t (tkOf P t)
    unfold tkOf
    rw [hd]
    cases d <;> first
      | exact hd
      | exact ⟨_, _, _, hd⟩
      | exact ⟨_, hd, rfl⟩
      | trivial
  · intro h
    have h : (!P.stoodInHeld t && !P.eqGuardType P.depth t) = true := h
    simpa using h
theorem fuFold_get (ok : Func → Bool) : ∀ (l : List Func) (n : Nat) (t : Tr Fu) (i : Nat) (fu : Fu), (fuFold l n t).get i = some fu → (n ≤ i ∧ ∃ fn, l[i - n]? = some fn ∧ fuOf fn = some fu) ∨ t.get i = some fu
  | [], n, t, i, a, h => .inr h
  | x :: l, n, t, i, a, h => by
    have up : ∀ t', (fuFold l (n + 1) t').get i = some a → (n ≤ i ∧ ∃ fn, (x :: l)[i - n]? = some fn ∧ fuOf fn = some a) ∨ t'.get i = some a := by
      intro t' h'
      rcases fuFold_get ok l (n + 1) t' i a h' with ⟨h1, fn, h2, h3⟩ | h2
      · refine .inl ⟨by omega, fn, ?_, h3⟩
        rw [show i - n = (i - (n + 1)) + 1 by omega]
        exact h2
      · exact .inr h2
    simp only [fuFold] at h
    cases hx : fuOf x with
    | none => rw [hx] at h; exact up t h
    | some y =>
      rw [hx] at h
      rcases up _ h with h1 | h1
      · exact .inl h1
      · rw [Tr.get_set] at h1
        by_cases e : i = n
        · rw [if_pos e] at h1
          refine .inl ⟨by omega, x, ?_, by rw [hx]; exact h1⟩
          rw [show i - n = 0 by omega]; rfl
        · rw [if_neg e] at h1; exact .inr h1
/-- What is asked of a program's types: each has one that underlies it. -/
def allUnd (P : Program) : Bool := (List.range P.types.size).all fun t => (P.underlying t).isSome
theorem tab_ok {P : Program} {cx : Cx} (hcx : cx.ty = tabOf P) (hinfo : ∀ (t : TypeId) (i : TypeInfo), P.types[t]? = some i → P.info? t = some i) (hu : allUnd P = true) : TabOk P cx := by
  intro t ti h
  rw [hcx] at h
  rcases ofList_get _ 0 .nil t ti h with ⟨_, h1⟩ | h1
  · rw [Nat.sub_zero, List.getElem?_mapIdx, Array.getElem?_toList] at h1
    cases hi : P.types[t]? with
    | none => rw [hi] at h1; cases h1
    | some i =>
      rw [hi] at h1
      cases h1
      have hlt : t < P.types.size := by
        rcases Nat.lt_or_ge t P.types.size with h | h
        · exact h
        · rw [Array.getElem?_eq_none h] at hi; cases hi
      have := (List.all_eq_true.1 hu) t (by simpa using hlt)
      obtain ⟨d, hd⟩ := Option.isSome_iff_exists.1 this
      exact ti_ok (hinfo t i hi) hd
  · cases h1
/-- What is asked of a program's functions. -/
noncomputable def allFu (P : Program) : Bool := P.funcs.toList.all fun fn => match fn.body with
  | none => true
  | some c => okCode chkDraw fn.ntmps c && !(fn.name == "runtime.NumGoroutine")
theorem fu_ok {n0 : Old} {P : Program} {cx : Cx} (hcx : cx.fu = fusOf P) (hu : allFu P = true) : FuOk n0 P chkDraw cx := by
  intro f fu h
  rw [hcx] at h
  rcases fuFold_get (fun _ => true) _ 0 .nil f fu h with ⟨_, fn, h1, h2⟩ | h1
  · rw [Nat.sub_zero, Array.getElem?_toList] at h1
    have hm : fn ∈ P.funcs.toList := List.mem_of_getElem? (by rw [Array.getElem?_toList]; exact h1)
    have hc := (List.all_eq_true.1 hu) fn hm
    unfold fuOf at h2
    cases hb : fn.body with
    | none => rw [hb] at h2; cases h2
    | some c =>
      rw [hb] at h2 hc
      cases h2
      obtain ⟨h3, h4⟩ := and_true hc
      exact .inl ⟨fn, c, h1, hb, by simpa using h4, rfl, h3⟩
  · cases h1
theorem fu_sum {n0 : Old} {P : Program} {cx cx' : Cx} {chk : List Oper → Bool} (hF : FuOk n0 P chk cx) {f : FuncId} {s : List (BE × Bool) → List V → Pr V} (hs : SumOk n0 P f s) (hcx : cx'.fu = cx.fu.set f (.sum s)) : FuOk n0 P chk cx' := by
  intro g fu h
  rw [hcx, Tr.get_set] at h
  by_cases e : g = f
  · rw [if_pos e] at h
    cases h
    subst e
    exact .inr ⟨s, rfl, hs⟩
  · rw [if_neg e] at h
    exact hF g fu h
end Go.Vm
namespace Go.Vm
open Go.RowKit
/-- The cases of a run: what is asked of the numbers, what the run answers; out: what cannot be. -/
inductive DT
  | leaf (b : BE)
  | fork (e : BE) (yes no : DT)
  | out
def Covers (run : List (BE × Bool) → Option BE) : DT → List (BE × Bool) → Prop
  | .leaf b, pc => run pc = some b
  | .fork e y n, pc => Covers run y ((e, true) :: pc) ∧ Covers run n ((e, false) :: pc)
  | .out, _ => True
def DT.holds (env : Nat → Int) : DT → Prop
  | .leaf b => b.den env = true
  | .fork e y n => (e.den env = true → y.holds env) ∧ (e.den env = false → n.holds env)
  | .out => False
theorem covers_ok {run : List (BE × Bool) → Option BE} {env : Nat → Int} : ∀ {d : DT} {pc : List (BE × Bool)}, Covers run d pc → PcOk env pc → d.holds env → ∃ pc' b, PcOk env pc' ∧ run pc' = some b ∧ b.den env = true
  | .leaf b, pc, hc, hp, hd => ⟨pc, b, hp, hc, hd⟩
  | .out, _, _, _, hd => hd.elim
  | .fork e y n, pc, hc, hp, hd => by
    cases he : e.den env with
    | true =>
      refine covers_ok (d := y) hc.1 (fun x hx => ?_) (hd.1 he)
      rcases List.mem_cons.1 hx with rfl | hx
      · exact he
      · exact hp x hx
    | false =>
      refine covers_ok (d := n) hc.2 (fun x hx => ?_) (hd.2 he)
      rcases List.mem_cons.1 hx with rfl | hx
      · exact he
      · exact hp x hx
noncomputable def resE : Rs V → Option BE
  | .ok (.b e) _ => some e
  | _ => none
theorem rel_nil (env : Nat → Int) (w : World) : Rel env (oldOf w) (fun _ => none) .nil w :=
  ⟨fun _ _ => rfl, (fun b ob h => by cases h), (fun b b' ob ob' pl pl' h => by cases h), Nat.le_refl _, fun _ _ => rfl, fun _ h => h.elim, fun _ _ _ _ _ _ _ h => h⟩
/-- What a run of the VM answers in each case, the model's call answers. -/
theorem tree_calls {P : Program} {w : World} {cx : Cx} (hT : TabOk P cx) (hm : P.follows .mixedOrders = true) (hF : FuOk (oldOf w) P chkDraw cx) {fuel : Nat} {f : FuncId} {args : List V} {h : Tr Ob} {nx : Nat} (hnx : RO ≤ nx) {env : Nat → Int} {d : DT}
    (hcov : Covers (fun pc => resE (evCall { cx with pc := pc } fuel f args (.mk h nx .off))) d []) (hd : d.holds env) {M : Mp} (hr : Rel env (oldOf w) M h w) {args' : Array Value} (ha : VRs env M args args'.toList) :
    Calls P f args' w fun e w' => e = .returned (.bool true) ∧ Below w.heap.size w w' := by
  obtain ⟨pc, b, hp, hrun, hb⟩ := covers_ok hcov (fun x hx => by cases hx) hd
  cases hx : evCall { cx with pc := pc } fuel f args (.mk h nx .off) with
  | bad => rw [hx] at hrun; cases hrun
  | ok v σ =>
    rw [hx] at hrun
    cases σ with
    | mk h' nx' lg' =>
      have hs : CallOk env (oldOf w) P (evCall { cx with pc := pc } fuel) := vm_snd (cx := { cx with pc := pc }) hT hp hm hF fuel
      refine (hs f args h nx .off v h' nx' lg' hx M w args' hr hnx ha).2.mono fun e w' he => ?_
      cases e with
      | returned x =>
        obtain ⟨M', q1, q2, q3, q4, q5⟩ := he
        cases q3 with
        | b e => cases hrun; exact ⟨by rw [hb], q4⟩
        | _ => cases hrun
      | panicked _ => exact he.elim
      | outgrown => exact he.elim
/-- A call without arguments whose run needs no number. -/
theorem sum_ok {n0 : Old} {P : Program} {cx : Cx} (hT : TabOk P cx) (hm : P.follows .mixedOrders = true) (hF : ∀ n0, FuOk n0 P chkDraw cx) (hpc : cx.pc = []) {fuel : Nat} {f : FuncId} {nx : Nat} (hnx : RO ≤ nx) (hrun : resE (evCall cx fuel f [] (.mk .nil nx .off)) = some (.c true))
    (hf : ∃ fn c, P.funcs[f]? = some fn ∧ fn.body = some c ∧ fn.name ≠ "runtime.NumGoroutine") : SumOk n0 P f (constG true) := by
  refine sum_const hf fun w => ?_
  cases cx with
  | mk ty fu pc =>
    cases hpc
    exact tree_calls (cx := ⟨ty, fu, []⟩) hT hm (hF _) hnx (env := fun _ => 0) (d := .leaf (.c true)) hrun rfl (rel_nil _ w) .nil
theorem cov_leaf {run : List (BE × Bool) → Option BE} {pc : List (BE × Bool)} {b : BE} (h : run pc = some b) : Covers run (.leaf b) pc := h
theorem cov_out {run : List (BE × Bool) → Option BE} {pc : List (BE × Bool)} : Covers run .out pc := trivial
theorem cov_fork {run : List (BE × Bool) → Option BE} {pc : List (BE × Bool)} {e : BE} {y n : DT} (h1 : Covers run y ((e, true) :: pc)) (h2 : Covers run n ((e, false) :: pc)) : Covers run (.fork e y n) pc := ⟨h1, h2⟩
theorem holds_true {env : Nat → Int} : (DT.leaf (.c true)).holds env := rfl
theorem holds_leaf {env : Nat → Int} {b : BE} (h : b.den env = true) : (DT.leaf b).holds env := h
theorem holds_out {env : Nat → Int} (h : False) : DT.out.holds env := h
theorem holds_fork {env : Nat → Int} {e : BE} {y n : DT} (h1 : e.den env = true → y.holds env) (h2 : e.den env = false → n.holds env) : (DT.fork e y n).holds env := ⟨h1, h2⟩
end Go.Vm
namespace Go.Vm
open Go.RowKit
noncomputable section
def IE.sub (s : Nat → IE) : IE → IE
  | .c n => .c n
  | .v i => s i
  | .wrap k a => .wrap k (IE.sub s a)
  | .bin o k a b => .bin o k (IE.sub s a) (IE.sub s b)
def BE.sub (s : Nat → IE) : BE → BE
  | .c b => .c b
  | .lt a b => .lt (a.sub s) (b.sub s)
  | .le a b => .le (a.sub s) (b.sub s)
  | .eq a b => .eq (a.sub s) (b.sub s)
  | .not a => .not (BE.sub s a)
abbrev envS (env : Nat → Int) (s : Nat → IE) : Nat → Int := fun i => (s i).den env
theorem IE.den_sub (env : Nat → Int) (s : Nat → IE) : ∀ e : IE, (e.sub s).den env = e.den (envS env s)
  | .c _ => rfl
  | .v _ => rfl
  | .wrap k a => by show wrapF k ((a.sub s).den env) = _; rw [IE.den_sub env s a]; rfl
  | .bin o k a b => by show o.den k ((a.sub s).den env) ((b.sub s).den env) = _; rw [IE.den_sub env s a, IE.den_sub env s b]; rfl
theorem BE.den_sub (env : Nat → Int) (s : Nat → IE) : ∀ e : BE, (e.sub s).den env = e.den (envS env s)
  | .c _ => rfl
  | .lt a b => by show iltb _ _ = _; rw [IE.den_sub, IE.den_sub]; rfl
  | .le a b => by show ileb _ _ = _; rw [IE.den_sub, IE.den_sub]; rfl
  | .eq a b => by show ieqb _ _ = _; rw [IE.den_sub, IE.den_sub]; rfl
  | .not a => by show (!(a.sub s).den env) = _; rw [BE.den_sub env s a]; rfl

/-! ### values -/
def eqRL : RL Nat → RL Nat → Bool
  | [], [] => true
  | x :: r, y :: q => Nat.beq x.1 y.1 && Nat.beq x.2 y.2 && eqRL r q
  | _, _ => false
theorem eqRL_eq : ∀ {a b : RL Nat}, eqRL a b = true → a = b
  | [], [], _ => rfl
  | [], _ :: _, h => by cases h
  | _ :: _, [], h => by cases h
  | x :: r, y :: q, h => by
    simp only [eqRL, Bool.and_eq_true] at h
    obtain ⟨⟨h1, h2⟩, h3⟩ := h
    rw [eqRL_eq h3, show x = y from Prod.ext (Nat.eq_of_beq_eq_true h1) (Nat.eq_of_beq_eq_true h2)]
def sameO : Option Nat → Nat → Bool
  | some a => fun b => Nat.beq a b
  | none => fun _ => false
theorem sameO_eq {x : Option Nat} {b : Nat} (h : sameO x b = true) : x = some b := by
  cases x with
  | none => cases h
  | some a => rw [Nat.eq_of_beq_eq_true h]
variable (σ : Nat → Option Nat) (s : Nat → IE)
def mB (e : BE) : V → Bool
  | .b e' => BE.beq (e.sub s) e'
  | _ => false
def mI (k : IntKind) (e : IE) : V → Bool
  | .i k' e' => keq k k' && IE.beq (e.sub s) e'
  | _ => false
def mS (r : RL Nat) : V → Bool
  | .s r' => eqRL r r'
  | _ => false
def mP (o : Option (Nat × Nat)) : V → Bool
  | .p none => match o with | none => true | some _ => false
  | .p (some a) => match o with | none => false | some b => sameO (σ b.1) a.1 && Nat.beq b.2 a.2
  | _ => false
def mSl (o : Option (Nat × Nat)) (l c : Nat) : V → Bool
  | .sl none l' c' => match o with | none => Nat.beq l l' && Nat.beq c c' | some _ => false
  | .sl (some a) l' c' => match o with | none => false | some b => sameO (σ b.1) a.1 && Nat.beq b.2 a.2 && Nat.beq l l' && Nat.beq c c'
  | _ => false
def mM (o : Option Nat) : V → Bool
  | .m none => match o with | none => true | some _ => false
  | .m (some a) => match o with | none => false | some b => sameO (σ b) a
  | _ => false
def isNf : V → Bool
  | .nf => true
  | _ => false
def isNi : V → Bool
  | .ni => true
  | _ => false
/-- Values without values within. -/
def mF : V → V → Bool
  | .b e => mB s e
  | .i k e => mI s k e
  | .s r => mS r
  | .p o => mP σ o
  | .sl o l c => mSl σ o l c
  | .m o => mM σ o
  | .nf => isNf
  | .ni => isNi
  | _ => fun _ => false
def mFs : List V → List V → Bool
  | [], [] => true
  | x :: l, y :: l' => mF σ s x y && mFs l l'
  | _, _ => false
def mV : V → V → Bool
  | .fn f a c => fun y => match y with | .fn f' a' c' => Nat.beq f f' && mFs σ s a a' && mFs σ s c c' | _ => false
  | .ifc t x => fun y => match y with | .ifc t' x' => Nat.beq t t' && mF σ s x x' | _ => false
  | .agg l => fun y => match y with | .agg l' => mFs σ s l l' | _ => false
  | .tup l => fun y => match y with | .tup l' => mFs σ s l l' | _ => false
  | v => mF σ s v
def mVs : List V → List V → Bool
  | [], [] => true
  | x :: l, y :: l' => mV σ s x y && mVs l l'
  | _, _ => false
section
variable {σ s} {env : Nat → Int} {M : Mp}
abbrev mpS (σ : Nat → Option Nat) (M : Mp) : Mp := fun b => (σ b).bind M
theorem mF_ok {v y : V} {x : Value} (h : mF σ s v y = true) (r : VR env M y x) : VR (envS env s) (mpS σ M) v x := by
  cases v with
  | b e =>
    cases r <;> first | cases h | skip
    rename_i e'
    have h : BE.beq (e.sub s) e' = true := h
    rw [← BE.beq_eq _ _ h, BE.den_sub]
    exact .b e
  | i k e =>
    cases r <;> first | cases h | skip
    rename_i k' e'
    have h : (keq k k' && IE.beq (e.sub s) e') = true := h
    simp only [Bool.and_eq_true] at h
    rw [← IE.beq_eq _ _ h.2, IE.den_sub, ← (keq_eq _ _).1 h.1]
    exact .i k e
  | s r' =>
    cases r <;> first | cases h | skip
    rename_i r1 s1 h1 h2
    have h : eqRL r' r1 = true := h
    rw [eqRL_eq h]
    exact .s _ _ h1 h2
  | p o =>
    cases r <;> first | cases h | skip
    · cases o <;> first | exact .pn | cases h
    · rename_i b1 o1 pl hM
      cases o with
      | none => cases h
      | some a =>
        have h : (sameO (σ a.1) b1 && Nat.beq a.2 o1) = true := h
        simp only [Bool.and_eq_true] at h
        obtain ⟨a1, a2⟩ := a
        cases Nat.eq_of_beq_eq_true h.2
        refine .p a1 a2 pl ?_
        show (σ a1).bind M = _
        rw [sameO_eq h.1]; exact hM
  | sl o l c =>
    cases r <;> first | cases h | skip
    · rename_i l1 c1
      cases o with
      | none =>
        have h : (Nat.beq l l1 && Nat.beq c c1) = true := h
        simp only [Bool.and_eq_true] at h
        cases Nat.eq_of_beq_eq_true h.1; cases Nat.eq_of_beq_eq_true h.2
        exact .sn _ _
      | some a => cases h
    · rename_i b1 o1 l1 c1 c' pl ad hM q1 q2 q3 q4
      cases o with
      | none => cases h
      | some a =>
        have h : (sameO (σ a.1) b1 && Nat.beq a.2 o1 && Nat.beq l l1 && Nat.beq c c1) = true := h
        simp only [Bool.and_eq_true] at h
        obtain ⟨a1, a2⟩ := a
        obtain ⟨⟨⟨h1, h2⟩, h3⟩, h4⟩ := h
        cases Nat.eq_of_beq_eq_true h2; cases Nat.eq_of_beq_eq_true h3; cases Nat.eq_of_beq_eq_true h4
        refine .sl a1 a2 l c c' pl ad ?_ q1 q2 q3 q4
        show (σ a1).bind M = _
        rw [sameO_eq h1]; exact hM
  | m o =>
    cases r <;> first | cases h | skip
    · cases o <;> first | exact .mn | cases h
    · rename_i b1 pl hM
      cases o with
      | none => cases h
      | some a =>
        have h : sameO (σ a) b1 = true := h
        refine .m a pl ?_
        show (σ a).bind M = _
        rw [sameO_eq h]; exact hM
  | nf => cases r <;> first | exact .nf | cases h
  | ni => cases r <;> first | exact .ni | cases h
  | fn f a c => cases h
  | ifc t x => cases h
  | agg l => cases h
  | tup l => cases h
theorem mFs_ok : ∀ {l l' : List V} {xs : List Value}, mFs σ s l l' = true → VRs env M l' xs → VRs (envS env s) (mpS σ M) l xs
  | [], [], _, _, .nil => .nil
  | [], _ :: _, _, h, _ => by cases h
  | _ :: _, [], _, h, _ => by cases h
  | x :: l, y :: l', _, h, .cons _ x' _ xs h1 h2 => by
    simp only [mFs, Bool.and_eq_true] at h
    exact .cons _ _ _ _ (mF_ok h.1 h1) (mFs_ok h.2 h2)
theorem mV_ok {v y : V} {x : Value} (h : mV σ s v y = true) (r : VR env M y x) : VR (envS env s) (mpS σ M) v x := by
  cases v with
  | fn f a c =>
    cases r <;> first | cases h | skip
    rename_i f' a' c' xa xc h1 h2
    have h : (Nat.beq f f' && mFs σ s a a' && mFs σ s c c') = true := h
    simp only [Bool.and_eq_true] at h
    obtain ⟨⟨h3, h4⟩, h5⟩ := h
    cases Nat.eq_of_beq_eq_true h3
    exact .fn _ _ _ _ _ (mFs_ok h4 h1) (mFs_ok h5 h2)
  | ifc t x0 =>
    cases r <;> first | cases h | skip
    rename_i t' x1 x2 h1
    have h : (Nat.beq t t' && mF σ s x0 x1) = true := h
    simp only [Bool.and_eq_true] at h
    cases Nat.eq_of_beq_eq_true h.1
    exact .ifc _ _ _ (mF_ok h.2 h1)
  | agg l =>
    cases r <;> first | cases h | skip
    rename_i l' c' h1
    exact .agg _ _ (mFs_ok (l' := l') h h1)
  | tup l =>
    cases r <;> first | cases h | skip
    rename_i l' c' h1
    exact .tup _ _ (mFs_ok (l' := l') h h1)
  | _ => exact mF_ok h r
theorem mVs_ok : ∀ {l l' : List V} {xs : List Value}, mVs σ s l l' = true → VRs env M l' xs → VRs (envS env s) (mpS σ M) l xs
  | [], [], _, _, .nil => .nil
  | [], _ :: _, _, h, _ => by cases h
  | _ :: _, [], _, h, _ => by cases h
  | x :: l, y :: l', _, h, .cons _ x' _ xs h1 h2 => by
    simp only [mVs, Bool.and_eq_true] at h
    exact .cons _ _ _ _ (mV_ok h.1 h1) (mVs_ok h.2 h2)
end

/-! ### rows -/
/-- Rows told by their runs, cut alike. -/
def mRL : Nat → RL V → RL V → Bool
  | 0, _, _ => false
  | _ + 1, [], [] => true
  | f + 1, x :: r, y :: q => mV σ s x.1 y.1 && (match Nat.beq x.2 y.2 with
    | true => mRL f r q
    | false => match Nat.blt x.2 y.2 with
      | true => mRL f r ((y.1, y.2 - x.2) :: q)
      | false => mRL f ((x.1, x.2 - y.2) :: r) q)
  | _ + 1, _, _ => false
theorem mRL_ok : ∀ (f : Nat) {a b : RL V}, mRL σ s f a b = true → a.toList.length = b.toList.length ∧ ∀ (i : Nat) (v : V), a.toList[i]? = some v → ∃ u, b.toList[i]? = some u ∧ mV σ s v u = true
  | 0, _, _, h => by cases h
  | f + 1, [], [], _ => ⟨rfl, fun i v h => by simp [RL.toList_nil] at h⟩
  | f + 1, [], _ :: _, h => by cases h
  | f + 1, _ :: _, [], h => by cases h
  | f + 1, (xv, xn) :: r, (yv, yn) :: q, h => by
    have h : (mV σ s xv yv && (match Nat.beq xn yn with
    | true => mRL σ s f r q
    | false => match Nat.blt xn yn with
      | true => mRL σ s f r ((yv, yn - xn) :: q)
      | false => mRL σ s f ((xv, xn - yn) :: r) q)) = true := h
    simp only [Bool.and_eq_true] at h
    obtain ⟨hv, h⟩ := h
    simp only [RL.toList_cons, List.length_append, List.length_replicate]
    -- the runs of the one begin as the other's
    have step : ∀ (n : Nat) (a b : List V), (∀ (i : Nat) (v : V), a[i]? = some v → ∃ u, b[i]? = some u ∧ mV σ s v u = true) → ∀ (i : Nat) (v : V), (List.replicate n xv ++ a)[i]? = some v → ∃ u, (List.replicate n yv ++ b)[i]? = some u ∧ mV σ s v u = true := by
      intro n a b hab i v hi
      by_cases hl : i < n
      · rw [List.getElem?_append_left (by simpa using hl)] at hi ⊢
        rw [List.getElem?_replicate, if_pos hl] at hi ⊢
        cases hi
        exact ⟨yv, rfl, hv⟩
      · rw [List.getElem?_append_right (by simpa using Nat.le_of_not_lt hl)] at hi ⊢
        simp only [List.length_replicate] at hi ⊢
        exact hab _ v hi
    cases he : Nat.beq xn yn with
    | true =>
      rw [he] at h
      cases Nat.eq_of_beq_eq_true he
      obtain ⟨h1, h2⟩ := mRL_ok f h
      exact ⟨by rw [h1], step _ _ _ h2⟩
    | false =>
      rw [he] at h
      cases hb : Nat.blt xn yn with
      | true =>
        rw [hb] at h
        have hlt : xn < yn := by simpa [Nat.blt_eq] using hb
        obtain ⟨h1, h2⟩ := mRL_ok f h
        rw [RL.toList_cons, List.length_append, List.length_replicate] at h1
        refine ⟨by rw [h1]; simp; omega, fun i v hi => ?_⟩
        obtain ⟨u, hu, hm⟩ := step xn _ _ h2 i v hi
        refine ⟨u, ?_, hm⟩
        rw [RL.toList_cons, ← List.append_assoc, List.replicate_append_replicate, show xn + (yn - xn) = yn by omega] at hu
        exact hu
      | false =>
        rw [hb] at h
        have hge : yn ≤ xn := by
          have : ¬ xn < yn := by intro hc; rw [show Nat.blt xn yn = true by simpa [Nat.blt_eq] using hc] at hb; cases hb
          omega
        obtain ⟨h1, h2⟩ := mRL_ok f h
        rw [RL.toList_cons, List.length_append, List.length_replicate] at h1
        refine ⟨by rw [← h1]; simp; omega, fun i v hi => ?_⟩
        rw [show xn = yn + (xn - yn) by omega, ← List.replicate_append_replicate, List.append_assoc] at hi
        have h2' : ∀ (i : Nat) (v : V), (List.replicate (xn - yn) xv ++ RL.toList r)[i]? = some v → ∃ u, (RL.toList q)[i]? = some u ∧ mV σ s v u = true := fun i v hi => h2 i v (by rw [RL.toList_cons]; exact hi)
        exact step yn _ _ h2' i v hi
def fstV : List (V × V) → List V
  | [] => []
  | x :: r => x.1 :: fstV r
def sndV : List (V × V) → List V
  | [] => []
  | x :: r => x.2 :: sndV r
theorem fstV_eq : ∀ l : List (V × V), fstV l = l.map (·.1)
  | [] => rfl
  | x :: r => by simp [fstV, fstV_eq r]
theorem sndV_eq : ∀ l : List (V × V), sndV l = l.map (·.2)
  | [] => rfl
  | x :: r => by simp [sndV, sndV_eq r]
def mO : Ob → Option Ob → Bool
  | .cells el es ex live cs => fun o => match o with
    | some (.cells el' es' ex' live' cs') => match live with
      | false => true
      | true => live' && Nat.beq es es' && (!ex || ex') && mRL σ s (cs.length + cs'.length + 1) cs cs'
    | some (.map _) => !live
    | none => false
  | .map l => fun o => match o with
    | some (.map l') => mVs σ s (fstV l) (fstV l') && mVs σ s (sndV l) (sndV l')
    | _ => false
theorem mO_some {ob : Ob} {o : Option Ob} (h : mO σ s ob o = true) : ∃ ob', o = some ob' := by
  cases o with
  | some ob' => exact ⟨ob', rfl⟩
  | none => cases ob <;> cases h
theorem mO_alive {ob ob' : Ob} (h : mO σ s ob (some ob') = true) (ha : aliveO ob = true) : aliveO ob' = true := by
  cases ob with
  | cells el es ex live cs =>
    cases ha
    cases ob' with
    | cells el' es' ex' live' cs' =>
      have h : (live' && Nat.beq es es' && (!ex || ex') && mRL σ s (cs.length + cs'.length + 1) cs cs') = true := h
      simp only [Bool.and_eq_true] at h
      exact h.1.1.1
    | map l => cases h
  | map l =>
    cases ob' with
    | cells el' es' ex' live' cs' => cases h
    | map l' => rfl
theorem mO_ok {env : Nat → Int} {M : Mp} {pl : Pl} {w : World} {ob ob' : Ob} (h : mO σ s ob (some ob') = true) (r : OR env M pl w ob') : OR (envS env s) (mpS σ M) pl w ob := by
  cases ob with
  | cells el es ex live cs =>
    cases live with
    | false => exact .dead el es ex cs
    | true =>
      cases r with
      | live el' ex' cs' c e2 fz h1 h2 h3 h4 h5 h6 =>
        have h : (true && Nat.beq es pl.es && (!ex || ex') && mRL σ s (cs.length + cs'.length + 1) cs cs') = true := h
        simp only [Bool.and_eq_true] at h
        obtain ⟨⟨⟨_, q1⟩, q2⟩, q3⟩ := h
        cases Nat.eq_of_beq_eq_true q1
        obtain ⟨m1, m2⟩ := mRL_ok σ s _ q3
        refine .live el ex cs c e2 fz h1 h2 (by rw [m1]; exact h3) (fun i v hv => ?_) h5 (fun hx => ?_)
        · obtain ⟨u, hu, hm⟩ := m2 i v hv
          obtain ⟨x, hx, hr⟩ := h4 i u hu
          exact ⟨x, hx, mV_ok hm hr⟩
        · rw [m1]
          refine h6 ?_
          subst hx
          simpa using q2
      | dead el' es' ex' cs' => cases h
      | map l ms clock h1 h2 h3 => cases h
  | map l =>
    cases r with
    | live el' ex' cs' c e2 fz h1 h2 h3 h4 h5 h6 => cases h
    | dead el' es' ex' cs' => cases h
    | map l' ms clock h1 h2 h3 =>
      have h : (mVs σ s (fstV l) (fstV l') && mVs σ s (sndV l) (sndV l')) = true := h
      simp only [Bool.and_eq_true, fstV_eq, sndV_eq] at h
      exact .map l ms clock h1 (mVs_ok h.1 h2) (mVs_ok h.2 h3)

/-! ### the heap -/
/-- Something of all that a tree has. low, pw: where a part of it begins, how far its steps go. -/
def allT (f : Nat → Ob → Bool) (t : Tr Ob) : Nat → Nat → Bool :=
  Tr.rec (fun _ _ => true) (fun _ v _ il ir low pw => Option.rec true (fun a => f (Nat.sub (Nat.add low pw) 1) a) v && (il low (Nat.mul 2 pw) && ir (Nat.add low pw) (Nat.mul 2 pw))) t
theorem allT_ok (f : Nat → Ob → Bool) (t : Tr Ob) : ∀ (low pw : Nat), allT f t low pw = true → ∀ n a, 1 ≤ n → t.get1 n = some a → f (low + pw * n - 1) a = true := by
  induction t with
  | nil => intro low pw _ n a _ h; cases h
  | node l v r ihl ihr =>
    intro low pw h n a hn hg
    have h : (Option.rec true (fun a => f (Nat.sub (Nat.add low pw) 1) a) v && (allT f l low (2 * pw) && allT f r (low + pw) (2 * pw))) = true := h
    simp only [Bool.and_eq_true] at h
    obtain ⟨h0, h1, h2⟩ := h
    rw [Tr.get1_node] at hg
    by_cases e1 : n = 1
    · subst e1
      rw [if_pos rfl] at hg
      subst hg
      rw [Nat.mul_one]
      exact h0
    · rw [if_neg e1] at hg
      by_cases e2 : n % 2 = 1
      · rw [if_pos e2] at hg
        have := ihr _ _ h2 (n / 2) a (by omega) hg
        have e : low + pw * n - 1 = low + pw + 2 * pw * (n / 2) - 1 := by
          have : n = 2 * (n / 2) + 1 := by omega
          generalize n / 2 = m at this
          subst this
          rw [Nat.mul_add, Nat.mul_one, ← Nat.mul_assoc, Nat.mul_comm pw 2]
          omega
        rw [e]; exact this
      · rw [if_neg e2] at hg
        have := ihl _ _ h1 (n / 2) a (by omega) hg
        have e : low + pw * n - 1 = low + 2 * pw * (n / 2) - 1 := by
          have : n = 2 * (n / 2) := by omega
          generalize n / 2 = m at this
          subst this
          rw [← Nat.mul_assoc, Nat.mul_comm pw 2]
        rw [e]; exact this
theorem allT_get {f : Nat → Ob → Bool} {t : Tr Ob} (h : allT f t 0 1 = true) {b : Nat} {ob : Ob} (hg : t.get b = some ob) : f b ob = true := by
  have := allT_ok f t 0 1 h (b + 1) ob (by omega) hg
  simpa using this
/-- Where an address of the new telling lies in the old one. -/
def look : List (Nat × Nat) → Nat → Nat
  | [], b => b
  | x :: r, b => match Nat.beq x.1 b with
    | true => x.2
    | false => look r b
def hasB {α : Type} : Option α → Bool
  | some _ => true
  | none => false
def sgO {α : Type} : Option α → Nat → Option Nat
  | some _ => fun b => some b
  | none => fun _ => none
def sg (T : Tr Ob) (l : List (Nat × Nat)) (b : Nat) : Option Nat := sgO (T.get b) (look l b)
def inKeys : List (Nat × Nat) → Nat → Bool
  | [], _ => false
  | x :: r, b => Nat.beq x.1 b || inKeys r b
def inVals : List (Nat × Nat) → Nat → Bool
  | [], _ => false
  | x :: r, b => Nat.beq x.2 b || inVals r b
def nodupVals : List (Nat × Nat) → Bool
  | [] => true
  | x :: r => !inVals r x.2 && nodupVals r
def okL (T : Tr Ob) (l0 : List (Nat × Nat)) : List (Nat × Nat) → Bool
  | [] => true
  | x :: r => Nat.ble RO x.1 && Nat.ble RO x.2 && (!hasB (T.get x.2) || inKeys l0 x.2) && okL T l0 r
def chkH (T : Tr Ob) (h : Tr Ob) (l : List (Nat × Nat)) (s : Nat → IE) : Bool :=
  nodupVals l && okL T l l && allT (fun b ob => mO (sg T l) s ob (h.get (look l b))) T 0 1
theorem look_cases : ∀ (l : List (Nat × Nat)) (b : Nat), (inKeys l b = false ∧ look l b = b) ∨ (∃ c, (b, c) ∈ l ∧ look l b = c)
  | [], b => .inl ⟨rfl, rfl⟩
  | (a, c) :: r, b => by
    cases h : Nat.beq a b with
    | true =>
      cases Nat.eq_of_beq_eq_true h
      exact .inr ⟨c, by simp, by simp [look]⟩
    | false =>
      have e1 : look ((a, c) :: r) b = look r b := by simp only [look, h]
      have e2 : inKeys ((a, c) :: r) b = inKeys r b := by simp only [inKeys, h, Bool.false_or]
      rw [e1, e2]
      rcases look_cases r b with q | ⟨c', q1, q2⟩
      · exact .inl q
      · exact .inr ⟨c', by simp [q1], q2⟩
theorem inVals_mem : ∀ {l : List (Nat × Nat)} {a c : Nat}, (a, c) ∈ l → inVals l c = true
  | (x, y) :: r, a, c, h => by
    rcases List.mem_cons.1 h with e | h
    · cases e; simp [inVals]
    · simp [inVals, inVals_mem h]
theorem nodup_eq : ∀ {l : List (Nat × Nat)}, nodupVals l = true → ∀ {a a' c : Nat}, (a, c) ∈ l → (a', c) ∈ l → a = a'
  | [], _, a, a', c, h, _ => by simp at h
  | (x, y) :: r, hn, a, a', c, h, h' => by
    simp only [nodupVals, Bool.and_eq_true] at hn
    rcases List.mem_cons.1 h with e | h
    · cases e
      rcases List.mem_cons.1 h' with e' | h'
      · cases e'; rfl
      · have := inVals_mem h'; rw [this] at hn; cases hn.1
    · rcases List.mem_cons.1 h' with e' | h'
      · cases e'
        have := inVals_mem h; rw [this] at hn; cases hn.1
      · exact nodup_eq hn.2 h h'
theorem okL_mem {T : Tr Ob} {l0 : List (Nat × Nat)} : ∀ {l : List (Nat × Nat)}, okL T l0 l = true → ∀ {a c : Nat}, (a, c) ∈ l → RO ≤ a ∧ RO ≤ c ∧ (T.get c ≠ none → inKeys l0 c = true)
  | [], _, a, c, h => by simp at h
  | (x, y) :: r, ho, a, c, h => by
    simp only [okL, Bool.and_eq_true] at ho
    obtain ⟨⟨⟨h1, h2⟩, h3⟩, h4⟩ := ho
    rcases List.mem_cons.1 h with e | h
    · cases e
      refine ⟨Nat.le_of_ble_eq_true h1, Nat.le_of_ble_eq_true h2, fun hc => ?_⟩
      cases hg : T.get y with
      | none => exact absurd hg hc
      | some ob => rw [hg] at h3; simpa [hasB] using h3
    · exact okL_mem h4 h
theorem look_ro {T : Tr Ob} {l : List (Nat × Nat)} (ho : okL T l l = true) (b : Nat) : RO ≤ look l b ↔ RO ≤ b := by
  rcases look_cases l b with ⟨_, e⟩ | ⟨c, h, e⟩
  · rw [e]
  · rw [e]; have := okL_mem ho h; exact ⟨fun _ => this.1, fun _ => this.2.1⟩
theorem look_inj {T : Tr Ob} {l : List (Nat × Nat)} (hn : nodupVals l = true) (ho : okL T l l = true) {b b' : Nat} (hb : T.get b ≠ none) (hb' : T.get b' ≠ none) (e : look l b = look l b') : b = b' := by
  rcases look_cases l b with ⟨k1, e1⟩ | ⟨c, h1, e1⟩ <;> rcases look_cases l b' with ⟨k2, e2⟩ | ⟨c', h2, e2⟩
  · rw [e1, e2] at e; exact e
  · rw [e1, e2] at e
    have := (okL_mem ho h2).2.2 (by rw [← e]; exact hb)
    rw [← e, k1] at this; cases this
  · rw [e1, e2] at e
    have := (okL_mem ho h1).2.2 (by rw [e]; exact hb')
    rw [e, k2] at this; cases this
  · rw [e1, e2] at e
    subst e
    exact nodup_eq hn h1 h2
theorem Rel.told {env : Nat → Int} {n0 : Old} {M : Mp} {h : Tr Ob} {w : World} (r : Rel env n0 M h w) {T : Tr Ob} {l : List (Nat × Nat)} {s : Nat → IE} (hc : chkH T h l s = true) : Rel (envS env s) n0 (mpS (sg T l) M) T w := by
  simp only [chkH, Bool.and_eq_true] at hc
  obtain ⟨⟨hn, ho⟩, ha⟩ := hc
  have hsg : ∀ b ob, T.get b = some ob → sg T l b = some (look l b) := fun b ob e => by unfold sg; rw [e]; rfl
  refine ⟨fun b hb => ?_, fun b ob hb => ?_, fun b b' ob ob' pl pl' g1 g2 l1 l2 r1 r2 m1 m2 hbk => ?_, r.size, r.old, r.kept, fun b pl ob hb hM hro hal => ?_⟩
  rotate_left 3
  · have hm := allT_get ha hb
    obtain ⟨ob', e'⟩ := mO_some _ _ hm
    rw [e'] at hm
    have hM : (sg T l b).bind M = some pl := hM
    rw [hsg b ob hb] at hM
    exact r.apart _ pl ob' e' hM ((look_ro ho b).2 hro) (mO_alive _ _ hm hal)
  · show (sg T l b).bind M = none
    unfold sg; rw [hb]; rfl
  · have hm := allT_get ha hb
    obtain ⟨ob', e'⟩ := mO_some _ _ hm
    rw [e'] at hm
    obtain ⟨pl, q1, q2, q3, q4, q5⟩ := r.row _ _ e'
    refine ⟨pl, ?_, mO_ok _ _ hm q2, fun h => q3 ((look_ro ho b).2 h), fun h => q4 ?_, q5⟩
    · show (sg T l b).bind M = _
      rw [hsg b ob hb]; exact q1
    · have := look_ro ho b
      omega
  · have hm := allT_get ha g1
    have hm' := allT_get ha g2
    obtain ⟨o1, e1⟩ := mO_some _ _ hm
    obtain ⟨o2, e2⟩ := mO_some _ _ hm'
    rw [e1] at hm; rw [e2] at hm'
    have m1 : M (look l b) = some pl := by
      have m1 : (sg T l b).bind M = some pl := m1
      rw [hsg b ob g1] at m1; exact m1
    have m2 : M (look l b') = some pl' := by
      have m2 : (sg T l b').bind M = some pl' := m2
      rw [hsg b' ob' g2] at m2; exact m2
    have := r.inj _ _ o1 o2 pl pl' e1 e2 (mO_alive _ _ hm l1) (mO_alive _ _ hm' l2) ((look_ro ho b).2 r1) ((look_ro ho b').2 r2) m1 m2 hbk
    exact look_inj hn ho (by rw [g1]; simp) (by rw [g2]; simp) this

/-! ### what a call leaves -/
structure Lf where
  v : V
  T : Tr Ob
  l : List (Nat × Nat)
  s : List IE
def sAt : List IE → Nat → IE
  | [], _ => .c 0
  | x :: r, n => match n with
    | 0 => x
    | m + 1 => sAt r m
inductive DL
  | leaf (x : Lf)
  | fork (e : BE) (yes no : DL)
  | out
def chkLf (x : Lf) : Rs V → Bool
  | .ok v (.mk h _ _) => mV (sg x.T x.l) (sAt x.s) x.v v && chkH x.T h x.l (sAt x.s)
  | .bad => false
def CoversL (run : List (BE × Bool) → Rs V) : DL → List (BE × Bool) → Prop
  | .leaf x, pc => chkLf x (run pc) = true
  | .fork e y n, pc => CoversL run y ((e, true) :: pc) ∧ CoversL run n ((e, false) :: pc)
  | .out, _ => True
/-- What cannot be is not. -/
def DL.holds (env : Nat → Int) : DL → Prop
  | .leaf _ => True
  | .fork e y n => (e.den env = true → y.holds env) ∧ (e.den env = false → n.holds env)
  | .out => False
/-- Of the case that is. -/
def DL.at (env : Nat → Int) (Q : Lf → Prop) : DL → Prop
  | .leaf x => Q x
  | .fork e y n => (e.den env = true ∧ y.at env Q) ∨ (e.den env = false ∧ n.at env Q)
  | .out => False
theorem coversL_ok {run : List (BE × Bool) → Rs V} {env : Nat → Int} : ∀ {d : DL} {pc : List (BE × Bool)}, CoversL run d pc → PcOk env pc → d.holds env → ∃ pc', PcOk env pc' ∧ ∃ x, chkLf x (run pc') = true ∧ ∀ Q : Lf → Prop, Q x → d.at env Q
  | .leaf x, pc, hc, hp, hd => ⟨pc, hp, x, hc, fun Q h => h⟩
  | .out, _, _, _, hd => hd.elim
  | .fork e y n, pc, hc, hp, hd => by
    cases he : e.den env with
    | true =>
      obtain ⟨pc', a, x, b, c⟩ := coversL_ok (d := y) hc.1 (fun x hx => by
        rcases List.mem_cons.1 hx with rfl | hx
        · exact he
        · exact hp x hx) (hd.1 he)
      exact ⟨pc', a, x, b, fun Q h => .inl ⟨he, c Q h⟩⟩
    | false =>
      obtain ⟨pc', a, x, b, c⟩ := coversL_ok (d := n) hc.2 (fun x hx => by
        rcases List.mem_cons.1 hx with rfl | hx
        · exact he
        · exact hp x hx) (hd.2 he)
      exact ⟨pc', a, x, b, fun Q h => .inr ⟨he, c Q h⟩⟩
/-- What is kept at its address. -/
def KeepM (x : Lf) (M M' : Mp) : Prop := ∀ b pl, sg x.T x.l b = some b → M b = some pl → M' b = some pl
def LfR (env : Nat → Int) (n0 : Old) (M : Mp) (r : Value) (w' : World) (x : Lf) : Prop :=
  ∃ M', KeepM x M M' ∧ Rel (envS env (sAt x.s)) n0 M' x.T w' ∧ VR (envS env (sAt x.s)) M' x.v r
theorem tree_rel {P : Program} {n0 : Old} {w : World} {cx : Cx} (hT : TabOk P cx) (hm : P.follows .mixedOrders = true) (hF : FuOk n0 P chkDraw cx) {fuel : Nat} {f : FuncId} {args : List V} {h : Tr Ob} {nx : Nat} (hnx : RO ≤ nx) {env : Nat → Int} {d : DL}
    (hcov : CoversL (fun pc => evCall { cx with pc := pc } fuel f args (.mk h nx .off)) d []) (hd : d.holds env) {M : Mp} (hr : Rel env n0 M h w) {args' : Array Value} (ha : VRs env M args args'.toList) :
    Calls P f args' w fun e w' => ∃ r, e = .returned r ∧ Below n0.n w w' ∧ d.at env (LfR env n0 M r w') := by
  obtain ⟨pc, hp, x, hrun, hat⟩ := coversL_ok hcov (fun x hx => by cases hx) hd
  cases hx : evCall { cx with pc := pc } fuel f args (.mk h nx .off) with
  | bad => rw [hx] at hrun; cases hrun
  | ok v σ =>
    rw [hx] at hrun
    cases σ with
    | mk h' nx' lg' =>
      have hrun : (mV (sg x.T x.l) (sAt x.s) x.v v && chkH x.T h' x.l (sAt x.s)) = true := hrun
      simp only [Bool.and_eq_true] at hrun
      have hs : CallOk env n0 P (evCall { cx with pc := pc } fuel) := vm_snd (cx := { cx with pc := pc }) hT hp hm hF fuel
      refine (hs f args h nx .off v h' nx' lg' hx M w args' hr hnx ha).2.mono fun e w' he => ?_
      cases e with
      | returned r =>
        obtain ⟨M', q1, q2, q3, q4, q5⟩ := he
        refine ⟨r, rfl, q4, hat _ ⟨mpS (sg x.T x.l) M', fun b pl hb hM => ?_, q2.told hrun.2, mV_ok hrun.1 q3⟩⟩
        show (sg x.T x.l b).bind M' = _
        rw [hb]; exact q1 _ _ hM
      | panicked _ => exact he.elim
      | outgrown => exact he.elim

/-! ### reading, and rows that are written wildly -/
theorem Rel.cellAt {env : Nat → Int} {n0 : Old} {M : Mp} {h : Tr Ob} {w : World} (r : Rel env n0 M h w) {b : Nat} {el : TypeId} {es : Nat} {ex : Bool} {cs : RL V} (e : h.get b = some (.cells el es ex true cs)) {pl : Pl} (hM : M b = some pl) (i : Nat) (v : V) (hv : cs.get i = some v) :
    ∃ x, w.cell? ⟨pl.blk, pl.off + i, none⟩ = some x ∧ VR env M v x := by
  obtain ⟨pl', c, el', fz, h1, h2, h3, h4, h5⟩ := r.live e
  rw [hM] at h1; cases h1
  rw [RL.get_eq] at hv
  obtain ⟨x, hx, hr⟩ := h3.cell i v hv
  exact ⟨x, by simp [World.cell?, h3.heap, hx], hr⟩
/-- A row is written where nobody can tell: nothing is known of it any more. -/
theorem Rel.wild {env : Nat → Int} {n0 : Old} {M : Mp} {h : Tr Ob} {w w' : World} (r : Rel env n0 M h w) {b : Nat} {el : TypeId} {es : Nat} {ex : Bool} {cs : RL V} (e : h.get b = some (.cells el es ex true cs)) {pl : Pl} (hM : M b = some pl) (hRO : RO ≤ b)
    (hk : ∀ k, k ≠ pl.blk → w'.heap[k]? = w.heap[k]?) (hsz : w'.heap.size = w.heap.size) : Rel env n0 M (h.set b (.cells el es ex false cs)) w' := by
  obtain ⟨pl0, c0, e0, fz0, hM0, hes, row0, hn0, hlt⟩ := r.live e
  rw [hM] at hM0; cases hM0
  refine ⟨?_, ?_, ?_, by rw [hsz]; exact r.size, fun k hk' => (hk k (by have := (hn0 hRO).1; omega)).trans (r.old k hk'), fun k hk' => ⟨by rw [hsz]; exact (r.kept k hk').1, (hk k (fun ek => r.apart b pl _ e hM hRO rfl (by rw [← ek]; exact hk'))).trans (r.kept k hk').2⟩, fun kk pl' ob hob hM' hro hal => by
    rw [Tr.get_set] at hob
    by_cases ek : kk = b
    · subst ek; exact r.apart _ pl' _ e hM' hro rfl
    · rw [if_neg ek] at hob; exact r.apart kk pl' ob hob hM' hro hal⟩
  · intro k hk'
    rw [Tr.get_set] at hk'
    split at hk'
    · cases hk'
    · exact r.dom k hk'
  · intro k ob hob
    rw [Tr.get_set] at hob
    by_cases ek : k = b
    · subst ek
      rw [if_pos rfl] at hob
      cases hob
      exact ⟨pl, hM, .dead el es ex cs, hn0, fun hlt' => by omega, by rw [hsz]; exact hlt⟩
    · rw [if_neg ek] at hob
      obtain ⟨plk, m1, m2, m3, m4, m5⟩ := r.row k ob hob
      refine ⟨plk, m1, m2.mono M.le_refl (fun ha => ?_), m3, m4, by rw [hsz]; exact m5⟩
      refine hk _ fun hne => ek ?_
      by_cases hro : RO ≤ k
      · exact r.inj k b ob _ plk pl hob e ha rfl hro hRO m1 hM hne
      · have := m4 (by omega); have := (hn0 hRO).1; omega
  · intro a a' oa oa' pa pa' g1 g2 l1 l2 ro1 ro2 m1 m2 hbk
    rw [Tr.get_set] at g1 g2
    have get : ∀ a oa, (if a = b then some (Ob.cells el es ex false cs) else h.get a) = some oa → aliveO oa = true → h.get a = some oa := by
      intro a oa g l
      by_cases ea : a = b
      · rw [if_pos ea] at g; cases g; cases l
      · rw [if_neg ea] at g; exact g
    exact r.inj a a' oa oa' pa pa' (get a oa g1 l1) (get a' oa' g2 l2) l1 l2 ro1 ro2 m1 m2 hbk
end
end Go.Vm
namespace Go.Vm
/-! ### what values are, told -/
section
variable {env : Nat → Int} {M : Mp}
theorem VR.ptr {b o : Nat} {x : Value} (h : VR env M (.p (some (b, o))) x) : ∃ pl, M b = some pl ∧ x = .pointer (some ⟨pl.blk, pl.off + o, none⟩) := by
  cases h with
  | p b o pl hM => exact ⟨pl, hM, rfl⟩
theorem VR.nilp {x : Value} (h : VR env M (.p none) x) : x = .pointer none := by cases h; rfl
theorem VR.intv {k : IntKind} {e : IE} {x : Value} (h : VR env M (.i k e) x) : x = .int k (e.den env) := by cases h; rfl
theorem VR.boolv {e : BE} {x : Value} (h : VR env M (.b e) x) : x = .bool (e.den env) := by cases h; rfl
theorem VR.sln {l c : Nat} {x : Value} (h : VR env M (.sl none l c) x) : x = .slice none l c := by cases h; rfl
theorem VR.slv {b o l c : Nat} {x : Value} (h : VR env M (.sl (some (b, o)) l c) x) : ∃ (pl : Pl) (a : Addr) (c' : Nat), M b = some pl ∧ c ≤ c' ∧ pl.off + o + c' * pl.es ≤ pl.sz ∧ (a = ⟨pl.blk, pl.off + o, none⟩ ∨ c' = 0) ∧ l ≤ c ∧ x = .slice (some a) l c' := by
  cases h with
  | sl b o l c c' pl a h1 h2 h3 h4 h5 => exact ⟨pl, a, c', h1, h2, h3, h4, h5, rfl⟩
/-- A slice that has room. -/
theorem VR.slw {b o l c : Nat} {x : Value} (h : VR env M (.sl (some (b, o)) l c) x) (hc : 0 < c) : ∃ (pl : Pl) (c' : Nat), M b = some pl ∧ c ≤ c' ∧ pl.off + o + c' * pl.es ≤ pl.sz ∧ l ≤ c ∧ x = .slice (some ⟨pl.blk, pl.off + o, none⟩) l c' := by
  obtain ⟨pl, a, c', h1, h2, h3, h4, h5, rfl⟩ := h.slv
  rcases h4 with rfl | h4
  · exact ⟨pl, c', h1, h2, h3, h5, rfl⟩
  · omega
theorem VRs.uncons {v : V} {l : List V} {xs : List Value} (h : VRs env M (v :: l) xs) : ∃ x xs', xs = x :: xs' ∧ VR env M v x ∧ VRs env M l xs' := by
  cases h with
  | cons x x' l l' h1 h2 => exact ⟨_, _, rfl, h1, h2⟩
theorem VRs.unnil {xs : List Value} (h : VRs env M [] xs) : xs = [] := by cases h; rfl
theorem VR.tupv {l : List V} {x : Value} (h : VR env M (.tup l) x) : ∃ xs : List Value, x = .tuple xs.toArray ∧ VRs env M l xs := by
  cases h with
  | tup l c hs => exact ⟨c.toList, by simp, hs⟩
theorem VR.aggv {l : List V} {x : Value} (h : VR env M (.agg l) x) : ∃ xs : List Value, x = .agg xs.toArray ∧ VRs env M l xs := by
  cases h with
  | agg l c hs => exact ⟨c.toList, by simp, hs⟩
theorem VR.tup2 {a b : V} {x : Value} (h : VR env M (.tup [a, b]) x) : ∃ x0 x1, x = .tuple #[x0, x1] ∧ VR env M a x0 ∧ VR env M b x1 := by
  obtain ⟨xs, rfl, q⟩ := h.tupv
  obtain ⟨x0, xs, rfl, h0, q⟩ := q.uncons
  obtain ⟨x1, xs, rfl, h1, q⟩ := q.uncons
  cases q.unnil
  exact ⟨x0, x1, rfl, h0, h1⟩
theorem VR.tup3 {a b c : V} {x : Value} (h : VR env M (.tup [a, b, c]) x) : ∃ x0 x1 x2, x = .tuple #[x0, x1, x2] ∧ VR env M a x0 ∧ VR env M b x1 ∧ VR env M c x2 := by
  obtain ⟨xs, rfl, q⟩ := h.tupv
  obtain ⟨x0, xs, rfl, h0, q⟩ := q.uncons
  obtain ⟨x1, xs, rfl, h1, q⟩ := q.uncons
  obtain ⟨x2, xs, rfl, h2, q⟩ := q.uncons
  cases q.unnil
  exact ⟨x0, x1, x2, rfl, h0, h1, h2⟩
end
/-- A row's cells are not frozen. -/
theorem Rel.free {env : Nat → Int} {n0 : Old} {M : Mp} {h : Tr Ob} {w : World} (r : Rel env n0 M h w) {b : Nat} {el : TypeId} {es : Nat} {ex : Bool} {cs : RL V} (e : h.get b = some (.cells el es ex true cs)) (hRO : RO ≤ b) {pl : Pl} (hM : M b = some pl) (i : Nat) (hi : i < cs.toList.length) : w.frozen? ⟨pl.blk, pl.off + i, none⟩ = false := by
  obtain ⟨pl', c, el', fz, h1, h2, h3, h4, h5⟩ := r.live e
  rw [hM] at h1; cases h1
  have := h3.free (h4 hRO).2 (pl.off + i) (by rw [h3.size]; have := h3.len; omega)
  have hh := h3.heap
  obtain ⟨f1, f2⟩ := fz
  simp only [World.frozen?, hh]
  simp at this ⊢
  exact this
/-- A new row, laid by the model's own alloc. -/
theorem Rel.alloc {env : Nat → Int} {n0 : Old} {M : Mp} {h : Tr Ob} {w : World} (r : Rel env n0 M h w) {n : Nat} (hn : h.get n = none) (hRO : RO ≤ n) {cs : RL V} {xs : List Value} (hx : VRs env M cs.toList xs) (el t : TypeId) (es : Nat) :
    Rel env n0 (M.add n ⟨w.heap.size, 0, xs.length, es, false⟩) (h.set n (.cells el es true true cs)) (w.alloc (.cells xs.toArray t)) := by
  refine r.push hn hRO (pl := ⟨w.heap.size, 0, xs.length, es, false⟩) rfl rfl fun w' hw' => ?_
  have hle : M.le (M.add n ⟨w.heap.size, 0, xs.length, es, false⟩) := Mp.le_add (r.dom n hn)
  exact OR.fresh (rest := #[]) (e := t) (VRs.mono hle hx) rfl rfl (fun _ => rfl) (by simpa using hw')
end Go.Vm
namespace Go.Vm
open Go.RowKit
noncomputable section
/-- Values without addresses. -/
def flatV : V → Bool
  | .b _ => true
  | .i _ _ => true
  | .tup [.i _ _, .b _] => true
  | .tup [.i _ _, .i _ _] => true
  | _ => false
def flatVs : List V → Bool
  | [] => true
  | .i _ _ :: r => flatVs r
  | .b _ :: r => flatVs r
  | _ => false
def fbR : Rs V → Pr V
  | .ok v _ => match flatV v with
    | true => .ret v
    | false => .bad 401
  | .bad => .bad 402
/-- A run of its own, over an empty heap. -/
def fb (cx : Cx) (fuel : Nat) (f : FuncId) (pc : List (BE × Bool)) (args : List V) : Pr V := match flatVs args with
  | true => fbR (evCall { cx with pc := pc } fuel f args (.mk .nil 1000 .off))
  | false => .bad 403
def orP : Option V → Pr V → Pr V
  | some v => fun _ => .ret v
  | none => fun p => p
end
theorem flatV_ok {env : Nat → Int} {M M' : Mp} : ∀ {v : V} {x : Value}, flatV v = true → VR env M v x → VR env M' v x := by
  intro v x h r
  cases r with
  | b e => exact .b e
  | i k e => exact .i k e
  | tup l c hs =>
    refine .tup l c ?_
    generalize c.toList = l' at hs
    cases hs with
    | nil => exact .nil
    | cons a a' l l' h1 h2 =>
      cases h1 <;> simp only [flatV, Bool.false_eq_true] at h
      rename_i k e
      cases h2 with
      | nil => simp [flatV] at h
      | cons b b' l l' h3 h4 =>
        cases h4 with
        | cons c c' l l' _ _ => cases h3 <;> simp [flatV] at h
        | nil =>
          cases h3 <;> simp [flatV] at h
          · exact .cons _ _ _ _ (.i k e) (.cons _ _ _ _ (.b _) .nil)
          · exact .cons _ _ _ _ (.i k e) (.cons _ _ _ _ (.i _ _) .nil)
  | _ => simp [flatV] at h
theorem flatVs_ok {env : Nat → Int} {M M' : Mp} : ∀ {l : List V} {l' : List Value}, flatVs l = true → VRs env M l l' → VRs env M' l l'
  | [], _, _, r => by cases r; exact .nil
  | a :: l, _, h, r => by
    cases r with
    | cons a a' l l' h1 h2 =>
      cases h1 <;> simp only [flatVs, Bool.false_eq_true] at h
      · exact .cons _ _ _ _ (.b _) (flatVs_ok h h2)
      · exact .cons _ _ _ _ (.i _ _) (flatVs_ok h h2)
/-- What a rule says of a call. -/
def RuleOk (n0 : Old) (P : Program) (f : FuncId) (sp : List (BE × Bool) → List V → Option V) : Prop :=
  ∀ (env : Nat → Int) pc args v, PcOk env pc → sp pc args = some v → ∀ M args' w, (∀ k, k < n0.n → w.heap[k]? = n0.G k) → VRs env M args args'.toList → Calls P f args' w fun e w' => ∃ x, e = .returned x ∧ VR env M v x ∧ Below w.heap.size w w'
def Old.le (a b : Old) : Prop := a.n ≤ b.n ∧ ∀ k, k < a.n → b.G k = a.G k
theorem sum_fb {n0 : Old} {P : Program} {f : FuncId} {sp : List (BE × Bool) → List V → Option V} (hs : RuleOk n0 P f sp) {cx : Cx} (hT : TabOk P cx) (hm : P.follows .mixedOrders = true) (hF : ∀ n1, n0.le n1 → FuOk n1 P chkDraw cx) (fuel : Nat)
    (hf : ∃ fn c, P.funcs[f]? = some fn ∧ fn.body = some c ∧ fn.name ≠ "runtime.NumGoroutine") : SumOk n0 P f (fun pc args => orP (sp pc args) (fb cx fuel f pc args)) := by
  refine ⟨hf, ?_⟩
  intro env pc args h nx lg v h' nx' lg' hp hres M w args' r hn hargs
  have hres : (orP (sp pc args) (fb cx fuel f pc args)).run h nx lg = .ok v (.mk h' nx' lg') := hres
  cases hg : sp pc args with
  | some u =>
    rw [hg] at hres
    cases hres
    refine (hs env pc args _ hp hg M args' w r.old hargs).mono fun e w' ⟨x, he, hv, hb⟩ => ?_
    subst he
    exact ⟨M, M.le_refl, r.below hb, hv, hb.mono r.size, hn⟩
  | none =>
    rw [hg] at hres
    have hres : (fb cx fuel f pc args).run h nx lg = .ok v (.mk h' nx' lg') := hres
    unfold fb at hres
    cases hfl : flatVs args with
    | false => rw [hfl] at hres; cases hres
    | true =>
      rw [hfl] at hres
      have hres : (fbR (evCall { cx with pc := pc } fuel f args (.mk .nil 1000 .off))).run h nx lg = .ok v (.mk h' nx' lg') := hres
      cases hx : evCall { cx with pc := pc } fuel f args (.mk .nil 1000 .off) with
      | bad => rw [hx] at hres; cases hres
      | ok u σ =>
        rw [hx] at hres
        cases hfu : flatV u with
        | false => simp only [fbR, hfu] at hres; cases hres
        | true =>
          simp only [fbR, hfu] at hres
          cases hres
          cases σ with
          | mk h1 nx1 lg1 =>
            have hle : n0.le (oldOf w) := ⟨r.size, r.old⟩
            have hs' : CallOk env (oldOf w) P (evCall { cx with pc := pc } fuel) := vm_snd (cx := { cx with pc := pc }) hT hp hm (hF _ hle) fuel
            refine (hs' f args .nil 1000 .off v h1 nx1 lg1 hx (fun _ => none) w args' (rel_nil env w) (by decide) (flatVs_ok hfl hargs)).2.mono fun e w' he => ?_
            cases e with
            | returned x =>
              obtain ⟨M', q1, q2, q3, q4, q5⟩ := he
              exact ⟨M, M.le_refl, r.below q4, flatV_ok hfu q3, q4.mono r.size, hn⟩
            | panicked _ => exact he.elim
            | outgrown => exact he.elim
theorem sum_rule {n0 : Old} {P : Program} {f : FuncId} {sp : List (BE × Bool) → List V → Option V} (hs : RuleOk n0 P f sp) (hf : ∃ fn c, P.funcs[f]? = some fn ∧ fn.body = some c ∧ fn.name ≠ "runtime.NumGoroutine") : SumOk n0 P f (fun pc args => o1P (sp pc args)) := sum_pure hf hs
end Go.Vm
namespace Go.Vm
/-- What a condition says. -/
def BE.P (env : Nat → Int) : BE → Bool → Prop
  | .c x, b => x = b
  | .lt x y, true => x.den env < y.den env
  | .lt x y, false => y.den env ≤ x.den env
  | .le x y, true => x.den env ≤ y.den env
  | .le x y, false => y.den env < x.den env
  | .eq x y, true => x.den env = y.den env
  | .eq x y, false => x.den env ≠ y.den env
  | .not a, b => BE.P env a (!b)
theorem den_iff (env : Nat → Int) : ∀ (e : BE) (b : Bool), e.den env = b ↔ e.P env b
  | .c x, b => Iff.rfl
  | .lt x y, b => by
    show iltb _ _ = b ↔ _
    rw [iltb_eq]
    cases b <;> simp [BE.P]
  | .le x y, b => by
    show ileb _ _ = b ↔ _
    rw [ileb_eq]
    cases b <;> simp [BE.P]
  | .eq x y, b => by
    show ieqb _ _ = b ↔ _
    rw [ieqb_eq]
    cases b <;> simp [BE.P]
  | .not a, b => by
    show (!a.den env) = b ↔ a.P env (!b)
    rw [← den_iff env a]
    cases b <;> simp
theorem wrap_u8 (n : Int) : wrapF .u8 n = n % 256 := by rw [wrapF_eq]; simp [IntKind.wrap, IntKind.bits, IntKind.signed]
theorem wrap_u16 (n : Int) : wrapF .u16 n = n % 65536 := by rw [wrapF_eq]; simp [IntKind.wrap, IntKind.bits, IntKind.signed]
theorem wrap_u32 (n : Int) : wrapF .u32 n = n % 4294967296 := by rw [wrapF_eq]; simp [IntKind.wrap, IntKind.bits, IntKind.signed]
theorem wrap_u64 (n : Int) : wrapF .u64 n = n % 18446744073709551616 := by rw [wrapF_eq]; simp [IntKind.wrap, IntKind.bits, IntKind.signed]
theorem wrap_i8 (n : Int) : wrapF .i8 n = (n + 128) % 256 - 128 := by rw [wrapF_eq]; simp [IntKind.wrap, IntKind.bits, IntKind.signed]; split <;> omega
theorem wrap_i16 (n : Int) : wrapF .i16 n = (n + 32768) % 65536 - 32768 := by rw [wrapF_eq]; simp [IntKind.wrap, IntKind.bits, IntKind.signed]; split <;> omega
theorem wrap_i32 (n : Int) : wrapF .i32 n = (n + 2147483648) % 4294967296 - 2147483648 := by rw [wrapF_eq]; simp [IntKind.wrap, IntKind.bits, IntKind.signed]; split <;> omega
theorem wrap_i64 (n : Int) : wrapF .i64 n = (n + 9223372036854775808) % 18446744073709551616 - 9223372036854775808 := by rw [wrapF_eq]; simp [IntKind.wrap, IntKind.bits, IntKind.signed]; split <;> omega
theorem den_add (k : IntKind) (x y : Int) : IOp.den .add k x y = x + y := rfl
theorem den_sub (k : IntKind) (x y : Int) : IOp.den .sub k x y = x - y := isub_eq x y
theorem den_mul (k : IntKind) (x y : Int) : IOp.den .mul k x y = x * y := rfl
theorem den_tdiv (k : IntKind) (x y : Int) : IOp.den .tdiv k x y = x.tdiv y := rfl
theorem den_tmod (k : IntKind) (x y : Int) : IOp.den .tmod k x y = x.tmod y := rfl
theorem den_min (k : IntKind) (x y : Int) : IOp.den .min k x y = min x y := by
  show (match iltb y x with | true => y | false => x) = _
  rw [iltb_eq]
  by_cases h : y < x
  · rw [decide_eq_true h]; show y = _; omega
  · rw [decide_eq_false h]; show x = _; omega
theorem den_max (k : IntKind) (x y : Int) : IOp.den .max k x y = max x y := by
  show (match iltb x y with | true => y | false => x) = _
  rw [iltb_eq]
  by_cases h : x < y
  · rw [decide_eq_true h]; show y = _; omega
  · rw [decide_eq_false h]; show x = _; omega
theorem den_and (k : IntKind) (x y : Int) : IOp.den .and k x y = andF k x y := rfl
theorem land_mask (m j : Nat) : Nat.land m (2 ^ j - 1) = m % 2 ^ j := Nat.and_two_pow_sub_one_eq_mod m j
/-- The lowest bits of a number. -/
theorem and_u64 (x : Int) (j : Nat) (hj : j ≤ 64) : andF .u64 x ((2 ^ j - 1 : Nat) : Int) = x % ((2 ^ j : Nat) : Int) := by
  have hp : (2 : Nat) ^ j ≤ 2 ^ 64 := Nat.pow_le_pow_right (by decide) hj
  have hd : (2 : Nat) ^ j ∣ 2 ^ 64 := Nat.pow_dvd_pow 2 hj
  have h0 : 0 < (2 : Nat) ^ j := Nat.two_pow_pos j
  have e2 : imod ((2 ^ j - 1 : Nat) : Int) (two .u64) = 2 ^ j - 1 := by
    show Nat.mod (2 ^ j - 1) 18446744073709551616 = _
    exact Nat.mod_eq_of_lt (by omega)
  show Int.ofNat (Nat.land (imod x (two .u64)) (imod ((2 ^ j - 1 : Nat) : Int) (two .u64))) = _
  rw [e2, land_mask]
  show ((imod x (two .u64) % 2 ^ j : Nat) : Int) = _
  rw [Int.natCast_emod, imod_eq x (two .u64) (by decide)]
  exact Int.emod_emod_of_dvd x (by exact_mod_cast hd)
theorem and_low (x : Int) : andF .u64 x ((4294967295 : Nat) : Int) = x % 4294967296 := and_u64 x 32 (by decide)
theorem and_31 (x : Int) : andF .u64 x ((31 : Nat) : Int) = x % 32 := and_u64 x 5 (by decide)
theorem and_63 (x : Int) : andF .u64 x ((63 : Nat) : Int) = x % 64 := and_u64 x 6 (by decide)
theorem den_or (k : IntKind) (x y : Int) : IOp.den .or k x y = orF k x y := rfl
theorem den_xor (k : IntKind) (x y : Int) : IOp.den .xor k x y = xorF k x y := rfl
theorem and_i64 (x : Int) (j : Nat) (hj : j ≤ 62) : andF .i64 x ((2 ^ j - 1 : Nat) : Int) = x % ((2 ^ j : Nat) : Int) := by
  have hp : (2 : Nat) ^ j ≤ 2 ^ 62 := Nat.pow_le_pow_right (by decide) hj
  have hd : (2 : Nat) ^ j ∣ 2 ^ 64 := Nat.pow_dvd_pow 2 (by omega)
  have h0 : 0 < (2 : Nat) ^ j := Nat.two_pow_pos j
  have e2 : imod ((2 ^ j - 1 : Nat) : Int) (two .i64) = 2 ^ j - 1 := by
    show Nat.mod (2 ^ j - 1) 18446744073709551616 = _
    exact Nat.mod_eq_of_lt (by omega)
  have hlt : imod x (two .i64) % 2 ^ j < 2 ^ j := Nat.mod_lt _ h0
  show wrapB true (Nat.land (imod x (two .i64)) (imod ((2 ^ j - 1 : Nat) : Int) (two .i64))) (two .i64) = _
  rw [e2, land_mask]
  have hb : Nat.ble (two .i64 / 2) (imod x (two .i64) % 2 ^ j) = false := by
    rw [RL.ble_dec]
    have : two .i64 / 2 = 9223372036854775808 := by decide
    rw [this]
    simp only [decide_eq_false_iff_not]
    omega
  show (match Nat.ble (two .i64 / 2) (imod x (two .i64) % 2 ^ j) with | true => Int.subNatNat (imod x (two .i64) % 2 ^ j) (two .i64) | false => .ofNat (imod x (two .i64) % 2 ^ j)) = _
  rw [hb]
  show ((imod x (two .i64) % 2 ^ j : Nat) : Int) = _
  rw [Int.natCast_emod, imod_eq x (two .i64) (by decide)]
  exact Int.emod_emod_of_dvd x (by exact_mod_cast hd)
theorem and_i31 (x : Int) : andF .i64 x ((31 : Nat) : Int) = x % 32 := and_i64 x 5 (by decide)
theorem and_i63 (x : Int) : andF .i64 x ((63 : Nat) : Int) = x % 64 := and_i64 x 6 (by decide)
end Go.Vm
namespace Go.Vm
open Go.RowKit
def M1 (b : Nat) (pl : Pl) : Mp := fun k => if k = b then some pl else none
theorem M1_self (b : Nat) (pl : Pl) : M1 b pl b = some pl := by unfold M1; rw [if_pos rfl]
theorem rel_one {env : Nat → Int} {w : World} {b : Nat} (hb : b < RO) {pl : Pl} {ob : Ob} (ho : OR env (M1 b pl) pl w ob) (hlt : pl.blk < w.heap.size) : Rel env (oldOf w) (M1 b pl) (Tr.set .nil b ob) w := by
  refine ⟨fun k hk => ?_, fun k o hk => ?_, fun k k' o o' p p' _ _ _ _ r1 _ m1 => ?_, Nat.le_refl _, fun _ _ => rfl, fun _ h => h.elim, fun _ _ _ _ _ _ _ h => h⟩
  · rw [Tr.get_set] at hk
    unfold M1
    by_cases e : k = b
    · rw [if_pos e] at hk; cases hk
    · rw [if_neg e]
  · rw [Tr.get_set] at hk
    by_cases e : k = b
    · rw [if_pos e] at hk
      cases hk
      subst e
      exact ⟨pl, M1_self _ _, ho, fun h => by omega, fun _ => hlt, hlt⟩
    · rw [if_neg e] at hk; cases hk
  · unfold M1 at m1
    by_cases e : k = b
    · omega
    · rw [if_neg e] at m1; cases m1
/-- A row of a slice of numbers that came in. -/
theorem ints_in {k : IntKind} {W : World} {x : Addr} {cap : Nat} {zs : List Int} (hz : zs.length = cap) (hcell : ∀ i, i < zs.length → W.cell? (x.add i) = some (.int k (zs.getD i 0))) (hpos : 0 < cap)
    {L base : Nat} (hL : L ≤ cap) {env : Nat → Int} (henv : ∀ j, j < L → env (base + j) = zs.getD j 0) {b : Nat} (hb : b < RO) (e : TypeId) {vs : List V} (hvs : vs = (List.range L).map fun j => V.i k (.v (base + j))) :
    ∃ pl, Rel env (oldOf W) (M1 b pl) (Tr.set .nil b (.cells e 1 false true (RL.ofList vs))) W ∧ VR env (M1 b pl) (.sl (some (b, 0)) L L) (.slice (some x) L cap) := by
  have h0 := hcell 0 (by omega)
  obtain ⟨c, el', fz, hh, hsp⟩ : ∃ c el' fz, W.heap[x.block]? = some (.cells c el' fz) ∧ x.spot = none := by
    have h0 : W.cell? (x.add 0) = _ := h0
    have hx0 : x.add 0 = x := by unfold Addr.add; simp
    rw [hx0] at h0
    unfold World.cell? at h0
    cases hw : W.heap[x.block]? with
    | none => rw [hw] at h0; cases h0
    | some o =>
      cases o with
      | cells c el fz =>
        rw [hw] at h0
        cases hs : x.spot with
        | none => exact ⟨c, el, fz, rfl, rfl⟩
        | some s => rw [hs] at h0; cases h0
      | _ => rw [hw] at h0; cases h0
  have hcl : ∀ i, i < cap → c[x.off + i]? = some (.int k (zs.getD i 0)) := by
    intro i hi
    have h1 := hcell i (by omega)
    obtain ⟨blk, off, spot⟩ := x
    subst hsp
    rw [add_eq] at h1
    unfold World.cell? at h1
    rw [hh] at h1
    exact h1
  have hsz : x.off + cap ≤ c.size := by
    have := (Array.getElem?_eq_some_iff.1 (hcl (cap - 1) (by omega))).1
    omega
  have hlt : x.block < W.heap.size := (Array.getElem?_eq_some_iff.1 hh).1
  have hlen : (RL.ofList vs).toList = vs := RL.toList_ofList vs
  have hvl : vs.length = L := by rw [hvs]; simp
  refine ⟨⟨x.block, x.off, c.size, 1, true⟩, rel_one hb ?_ hlt, ?_⟩
  · refine OR.live (pl := ⟨x.block, x.off, c.size, 1, true⟩) e false (RL.ofList vs) c el' fz hh rfl ?_ ?_ (fun hr => by cases hr) (fun hr => by cases hr)
    · rw [hlen, hvl]; show x.off + L ≤ c.size; omega
    · intro i v hv
      rw [hlen, hvs] at hv
      rw [List.getElem?_map] at hv
      by_cases hi : i < L
      · rw [List.getElem?_range hi] at hv
        cases hv
        refine ⟨_, hcl i (by omega), ?_⟩
        rw [← henv i hi]
        exact VR.i k (.v (base + i))
      · rw [List.getElem?_eq_none (by simpa using hi)] at hv
        cases hv
  · refine VR.sl b 0 L L cap ⟨x.block, x.off, c.size, 1, true⟩ x (M1_self _ _) hL ?_ (.inl ?_) (Nat.le_refl _)
    · show x.off + 0 + cap * 1 ≤ c.size; omega
    · obtain ⟨blk, off, spot⟩ := x
      subst hsp
      rfl
/-- Some row of cells is there. -/
def HasCells (W : World) : Prop := ∃ (g : Nat) (c : Array Value) (el : TypeId) (fz : Nat × Nat), W.heap[g]? = some (Obj.cells c el fz)
/-- A slice that came in, of whatever is in it: its cells are not asked for. -/
theorem any_in {W : World} {x : Addr} {len cap : Nat} (hl : len ≤ cap) (hc : 0 < cap → ∃ c el fz, W.heap[x.block]? = some (.cells c el fz) ∧ x.spot = none ∧ x.off + cap ≤ c.size) (hpos : HasCells W)
    (env : Nat → Int) {b : Nat} (hb : b < RO) (e : TypeId) : ∃ pl, Rel env (oldOf W) (M1 b pl) (Tr.set .nil b (.cells e 1 false false [])) W ∧ VR env (M1 b pl) (.sl (some (b, 0)) len len) (.slice (some x) len cap) := by
  by_cases h0 : 0 < cap
  · obtain ⟨c, el, fz, hh, hsp, hsz⟩ := hc h0
    refine ⟨⟨x.block, x.off, c.size, 1, true⟩, rel_one hb (.dead e 1 false []) (Array.getElem?_eq_some_iff.1 hh).1, ?_⟩
    refine VR.sl b 0 len len cap ⟨x.block, x.off, c.size, 1, true⟩ x (M1_self _ _) hl ?_ (.inl ?_) (Nat.le_refl _)
    · show x.off + 0 + cap * 1 ≤ c.size; omega
    · obtain ⟨blk, off, spot⟩ := x
      subst hsp
      rfl
  · obtain ⟨g, _, _, _, hg⟩ := hpos
    refine ⟨⟨0, 0, 0, 1, true⟩, rel_one hb (.dead e 1 false []) (by have := (Array.getElem?_eq_some_iff.1 hg).1; show 0 < W.heap.size; omega), ?_⟩
    exact VR.sl b 0 len len cap ⟨0, 0, 0, 1, true⟩ x (M1_self _ _) hl (by show 0 + 0 + cap * 1 ≤ 0; omega) (.inr (by omega)) (Nat.le_refl _)
/-- A slice that came in, with no room: a row of nothing. -/
theorem none_in {W : World} {x : Addr} {cap : Nat} (hc : cap = 0) (hpos : HasCells W) (env : Nat → Int) {b : Nat} (hb : b < RO) (e : TypeId) :
    ∃ pl, Rel env (oldOf W) (M1 b pl) (Tr.set .nil b (.cells e 1 false true (RL.ofList []))) W ∧ VR env (M1 b pl) (.sl (some (b, 0)) 0 0) (.slice (some x) 0 cap) := by
  obtain ⟨g, c, el, fz, hg⟩ := hpos
  refine ⟨⟨g, 0, c.size, 1, true⟩, rel_one hb ?_ (Array.getElem?_eq_some_iff.1 hg).1, ?_⟩
  · refine OR.live (pl := ⟨g, 0, c.size, 1, true⟩) e false (RL.ofList []) c el fz hg rfl ?_ ?_ (fun hr => by cases hr) (fun hr => by cases hr)
    · show 0 + 0 ≤ c.size; omega
    · intro i v hv; cases hv
  · exact VR.sl b 0 0 0 cap ⟨g, 0, c.size, 1, true⟩ x (M1_self _ _) (by omega) (by show 0 + 0 + cap * 1 ≤ c.size; omega) (.inr hc) (Nat.le_refl _)
/-- The same block, out of its cells. -/
theorem block_of {k : IntKind} {W : World} {x : Addr} {cap : Nat} {zs : List Int} (hz : zs.length = cap) (hcell : ∀ i, i < zs.length → W.cell? (x.add i) = some (.int k (zs.getD i 0))) (hpos : 0 < cap) :
    ∃ c el fz, W.heap[x.block]? = some (.cells c el fz) ∧ x.spot = none ∧ x.off + cap ≤ c.size := by
  have h0 := hcell 0 (by omega)
  obtain ⟨c, el', fz, hh, hsp⟩ : ∃ c el' fz, W.heap[x.block]? = some (.cells c el' fz) ∧ x.spot = none := by
    have hx0 : x.add 0 = x := by unfold Addr.add; simp
    rw [hx0] at h0
    unfold World.cell? at h0
    cases hw : W.heap[x.block]? with
    | none => rw [hw] at h0; cases h0
    | some o =>
      cases o with
      | cells c el fz =>
        rw [hw] at h0
        cases hs : x.spot with
        | none => exact ⟨c, el, fz, rfl, rfl⟩
        | some s => rw [hs] at h0; cases h0
      | _ => rw [hw] at h0; cases h0
  refine ⟨c, el', fz, hh, hsp, ?_⟩
  have h1 := hcell (cap - 1) (by omega)
  obtain ⟨blk, off, spot⟩ := x
  subst hsp
  rw [add_eq] at h1
  unfold World.cell? at h1
  rw [hh] at h1
  have := (Array.getElem?_eq_some_iff.1 (show c[off + (cap - 1)]? = some _ from h1)).1
  show off + cap ≤ c.size
  omega
/-- How a slice of numbers comes in. -/
def IsRow (k : IntKind) (w : World) (a : Option Addr) (len cap : Nat) (zs : List Int) : Prop :=
  (a = none ∧ len = 0 ∧ cap = 0 ∧ zs = []) ∨
  ∃ x, a = some x ∧ len ≤ cap ∧ cap ≤ maxLen ∧ zs.length = cap ∧ (∀ i, i < zs.length → w.cell? (x.add i) = some (.int k (zs.getD i 0))) ∧ ∀ n ∈ zs, (Lit.int k n).wf = true
theorem cells_of_var {P : Program} {w : World} {n : String} {cs : Array Value} (h : w.var? P n = some cs) : HasCells w := by
  unfold World.var? at h
  cases hg : P.globalNamed n with
  | none => rw [hg] at h; cases h
  | some g =>
    rw [hg] at h
    have h : (match w.heap[g]? with | some (.cells cs _ _) => some cs | _ => none) = some cs := h
    cases hw : w.heap[g]? with
    | none => rw [hw] at h; cases h
    | some o =>
      cases o with
      | cells c el fz => exact ⟨g, c, el, fz, hw⟩
      | _ => rw [hw] at h; cases h
theorem cells_of_laid {P : Program} {w : World} {x : String × DataW Unit} {l : List (String × DataW Unit)} (h : laidMet P (x :: l) w) : HasCells w := by
  obtain ⟨ps, hl, _⟩ := h
  obtain ⟨g, t, cs, fuel, p, q, _, _, hv, _⟩ := hl
  exact cells_of_var hv
theorem wf_getD {k : IntKind} {zs : List Int} (h : ∀ n ∈ zs, (Lit.int k n).wf = true) {j : Nat} (hj : j < zs.length) : (Lit.int k (zs.getD j 0)).wf = true := by
  rw [List.getD_eq_getElem?_getD, List.getElem?_eq_getElem hj]
  exact h _ (List.getElem_mem hj)
end Go.Vm
namespace Go.Vm
/-- A turn to the left, of w bits. -/
def rotN (w X m : Nat) : Nat := Nat.lor (X * 2 ^ m % 2 ^ w) (X / 2 ^ (w - m))
theorem lor_low {a b i : Nat} (h : b < 2 ^ i) : Nat.lor (a * 2 ^ i) b = a * 2 ^ i + b := by
  have := Nat.shiftLeft_add_eq_or_of_lt h a
  rw [Nat.shiftLeft_eq] at this
  exact this.symm
theorem mul_mod_pow (w X m : Nat) (hm : m ≤ w) : X * 2 ^ m % 2 ^ w = X % 2 ^ (w - m) * 2 ^ m := by
  have : 2 ^ w = 2 ^ (w - m) * 2 ^ m := by rw [← Nat.pow_add]; congr 1; omega
  rw [this, Nat.mul_mod_mul_right]
theorem div_lt_pow (w X m : Nat) (hm : m ≤ w) (hX : X < 2 ^ w) : X / 2 ^ (w - m) < 2 ^ m := by
  rw [Nat.div_lt_iff_lt_mul (Nat.two_pow_pos _), ← Nat.pow_add]
  rwa [show m + (w - m) = w by omega]
theorem rotN_eq (w X m : Nat) (hm : m ≤ w) (hX : X < 2 ^ w) : rotN w X m = X % 2 ^ (w - m) * 2 ^ m + X / 2 ^ (w - m) := by
  unfold rotN
  rw [mul_mod_pow w X m hm, lor_low (div_lt_pow w X m hm hX)]
theorem rotN_lt (w X m : Nat) (hm : m ≤ w) (hX : X < 2 ^ w) : rotN w X m < 2 ^ w := by
  rw [rotN_eq w X m hm hX]
  have h1 := div_lt_pow w X m hm hX
  have h2 : X % 2 ^ (w - m) < 2 ^ (w - m) := Nat.mod_lt _ (Nat.two_pow_pos _)
  have h3 : 2 ^ w = 2 ^ (w - m) * 2 ^ m := by rw [← Nat.pow_add]; congr 1; omega
  have h4 : (X % 2 ^ (w - m) + 1) * 2 ^ m ≤ 2 ^ (w - m) * 2 ^ m := Nat.mul_le_mul_right _ h2
  rw [Nat.add_mul] at h4
  omega
theorem rotN_back (w X m : Nat) (hm : m < w) (hX : X < 2 ^ w) : rotN w (rotN w X m) ((w - m) % w) = X := by
  by_cases h0 : m = 0
  · subst h0
    have e : (w - 0) % w = 0 := by simp
    rw [e]
    have h1 : rotN w X 0 = X := by
      rw [rotN_eq w X 0 (by omega) hX]
      simp [Nat.mod_eq_of_lt hX, Nat.div_eq_of_lt hX]
    rw [h1, h1]
  · have e : (w - m) % w = w - m := Nat.mod_eq_of_lt (by omega)
    rw [e, rotN_eq w _ (w - m) (by omega) (rotN_lt w X m (by omega) hX), show w - (w - m) = m by omega, rotN_eq w X m (by omega) hX]
    have h1 := div_lt_pow w X m (by omega) hX
    have hp : 0 < 2 ^ m := Nat.two_pow_pos m
    have a : (X % 2 ^ (w - m) * 2 ^ m + X / 2 ^ (w - m)) % 2 ^ m = X / 2 ^ (w - m) := by
      rw [Nat.add_comm, Nat.add_mul_mod_self_right, Nat.mod_eq_of_lt h1]
    have b : (X % 2 ^ (w - m) * 2 ^ m + X / 2 ^ (w - m)) / 2 ^ m = X % 2 ^ (w - m) := by
      rw [Nat.add_comm, Nat.add_mul_div_right _ _ hp, Nat.div_eq_of_lt h1, Nat.zero_add]
    rw [a, b, Nat.mul_comm]
    exact Nat.div_add_mod X (2 ^ (w - m))
section
variable {env : Nat → Int}
theorem orF_u32 (a b : Nat) (ha : a < 4294967296) (hb : b < 4294967296) : orF .u32 (a : Int) (b : Int) = ((Nat.lor a b : Nat) : Int) := by
  show Int.ofNat (Nat.lor (imod (a : Int) (two .u32)) (imod (b : Int) (two .u32))) = _
  have e : ∀ c : Nat, c < 4294967296 → imod (c : Int) (two .u32) = c := fun c hc => Nat.mod_eq_of_lt hc
  rw [e a ha, e b hb]; rfl
theorem orF_u64 (a b : Nat) (ha : a < 18446744073709551616) (hb : b < 18446744073709551616) : orF .u64 (a : Int) (b : Int) = ((Nat.lor a b : Nat) : Int) := by
  show Int.ofNat (Nat.lor (imod (a : Int) (two .u64)) (imod (b : Int) (two .u64))) = _
  have e : ∀ c : Nat, c < 18446744073709551616 → imod (c : Int) (two .u64) = c := fun c hc => Nat.mod_eq_of_lt hc
  rw [e a ha, e b hb]; rfl
theorem shl_at {k : IntKind} {x s : IE} {m : Nat} (hs : s.den env = m) (hm : m ≤ k.bits) : (IE.bin .shl k x s).den env = x.den env * ((2 ^ m : Nat) : Int) := by
  show IOp.den .shl k (x.den env) (s.den env) = _
  rw [shl_den, hs, show min ((m : Int).toNat) k.bits = m by omega]
  norm_cast
theorem shr_at {k : IntKind} {x s : IE} {m : Nat} (hs : s.den env = m) (hm : m ≤ k.bits) : (IE.bin .shr k x s).den env = x.den env / ((2 ^ m : Nat) : Int) := by
  show IOp.den .shr k (x.den env) (s.den env) = _
  rw [shr_den, hs, show min ((m : Int).toNat) k.bits = m by omega, show ((2 : Int) ^ m) = ((2 ^ m : Nat) : Int) by norm_cast]
  exact Int.fdiv_eq_ediv_of_nonneg _ (Int.natCast_nonneg _)
/-- The library's turn of 32 bits. -/
theorem rot32_den {x s : IE} {X m : Nat} (hx : x.den env = X) (hX : X < 4294967296) (hs : s.den env = m) (hm : m < 32) :
    (IE.bin .or .u32 (.wrap .u32 (.bin .shl .u32 x s)) (.bin .shr .u32 x (.wrap .u64 (.bin .sub .u64 (.c (.ofNat 32)) s)))).den env = ((rotN 32 X m : Nat) : Int) := by
  have h1 : (IE.wrap .u32 (.bin .shl .u32 x s)).den env = ((X * 2 ^ m % 4294967296 : Nat) : Int) := by
    show wrapF .u32 ((IE.bin .shl .u32 x s).den env) = _
    rw [wrap_u32, shl_at hs (by show m ≤ 32; omega), hx, Int.natCast_emod, Int.natCast_mul]; rfl
  have h2 : (IE.wrap .u64 (.bin .sub .u64 (.c (.ofNat 32)) s)).den env = ((32 - m : Nat) : Int) := by
    show wrapF .u64 (isub 32 (s.den env)) = _
    rw [wrap_u64, isub_eq, hs]; omega
  have h3 : (IE.bin .shr .u32 x (.wrap .u64 (.bin .sub .u64 (.c (.ofNat 32)) s))).den env = ((X / 2 ^ (32 - m) : Nat) : Int) := by
    rw [shr_at h2 (by show 32 - m ≤ 32; omega), hx]; norm_cast
  show orF .u32 ((IE.wrap .u32 (.bin .shl .u32 x s)).den env) ((IE.bin .shr .u32 x (.wrap .u64 (.bin .sub .u64 (.c (.ofNat 32)) s))).den env) = _
  rw [h1, h3, orF_u32 _ _ (Nat.mod_lt _ (by decide)) (by have := Nat.div_le_self X (2 ^ (32 - m)); omega)]
  rfl
theorem rot64_den {x s : IE} {X m : Nat} (hx : x.den env = X) (hX : X < 18446744073709551616) (hs : s.den env = m) (hm : m < 64) :
    (IE.bin .or .u64 (.wrap .u64 (.bin .shl .u64 x s)) (.bin .shr .u64 x (.wrap .u64 (.bin .sub .u64 (.c (.ofNat 64)) s)))).den env = ((rotN 64 X m : Nat) : Int) := by
  have h1 : (IE.wrap .u64 (.bin .shl .u64 x s)).den env = ((X * 2 ^ m % 18446744073709551616 : Nat) : Int) := by
    show wrapF .u64 ((IE.bin .shl .u64 x s).den env) = _
    rw [wrap_u64, shl_at hs (by show m ≤ 64; omega), hx, Int.natCast_emod, Int.natCast_mul]; rfl
  have h2 : (IE.wrap .u64 (.bin .sub .u64 (.c (.ofNat 64)) s)).den env = ((64 - m : Nat) : Int) := by
    show wrapF .u64 (isub 64 (s.den env)) = _
    rw [wrap_u64, isub_eq, hs]; omega
  have h3 : (IE.bin .shr .u64 x (.wrap .u64 (.bin .sub .u64 (.c (.ofNat 64)) s))).den env = ((X / 2 ^ (64 - m) : Nat) : Int) := by
    rw [shr_at h2 (by show 64 - m ≤ 64; omega), hx]; norm_cast
  show orF .u64 ((IE.wrap .u64 (.bin .shl .u64 x s)).den env) ((IE.bin .shr .u64 x (.wrap .u64 (.bin .sub .u64 (.c (.ofNat 64)) s))).den env) = _
  rw [h1, h3, orF_u64 _ _ (Nat.mod_lt _ (by decide)) (by have := Nat.div_le_self X (2 ^ (64 - m)); omega)]
  rfl
end
end Go.Vm
