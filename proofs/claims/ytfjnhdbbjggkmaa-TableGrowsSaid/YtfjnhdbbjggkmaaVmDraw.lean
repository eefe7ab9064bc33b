/- VM: an evaluator of the model's code, and that what it answers the model answers (Loc LocEv DrawA DrawB DrawC DrawD DrawE DrawF DrawG DrawH Sound). -/
import Derived.Test.YtfjnhdbbjggkmaaVmStep
set_option linter.unusedVariables false
set_option linter.unusedSimpArgs false
namespace Go.Vm

/-! ### logs -/
noncomputable def Lg.cat (l : Lg) (rd wr : Nat) : Lg := Lg.rec .off (fun r w => .on (rd ||| r) (wr ||| w)) l
theorem Lg.cat_eq (l : Lg) (rd wr : Nat) : l.cat rd wr = match l with | .off => .off | .on r w => .on (rd ||| r) (wr ||| w) := by cases l <;> rfl
theorem Lg.cat_nil (l : Lg) : l.cat 0 0 = l := by rw [Lg.cat_eq]; cases l <;> simp
theorem Lg.cat_cat (l : Lg) (a b c d : Nat) : (l.cat a b).cat c d = l.cat (c ||| a) (d ||| b) := by
  rw [Lg.cat_eq l, Lg.cat_eq l, Lg.cat_eq]
  cases l <;> simp [Nat.or_assoc]
theorem Lg.rd_eq (l : Lg) (b : Nat) : l.rd b = l.cat (2 ^ b) 0 := by
  rw [Lg.cat_eq]
  cases l with
  | off => rfl
  | on r w => show Lg.on (2 ^ b ||| r) w = _; simp
theorem Lg.wr_eq (l : Lg) (b : Nat) : l.wr b = l.cat 0 (2 ^ b) := by
  rw [Lg.cat_eq]
  cases l with
  | off => rfl
  | on r w => show Lg.on r (2 ^ b ||| w) = _; simp
theorem has_or (a b c : Nat) : (a ||| b).testBit c = true ↔ a.testBit c = true ∨ b.testBit c = true := by rw [Nat.testBit_or, Bool.or_eq_true]
theorem has_one (b c : Nat) : (2 ^ b).testBit c = true ↔ c = b := by
  rw [Nat.testBit_two_pow]
  simp
  exact eq_comm
theorem has_zero (c : Nat) : ¬ ((0 : Nat).testBit c = true) := by simp

/-! ### what a run hangs on -/
def Foot (wr nx nx' b : Nat) : Prop := wr.testBit b = true ∨ (nx ≤ b ∧ b < nx')
instance (wr nx nx' b : Nat) : Decidable (Foot wr nx nx' b) := by unfold Foot; infer_instance
def LocAt {α : Type} (F : RunT α) (h : Tr Ob) (nx : Nat) (a : α) (h' : Tr Ob) (nx' : Nat) (rd wr : Nat) : Prop :=
  nx ≤ nx' ∧ (∀ b, ¬ Foot wr nx nx' b → h'.get b = h.get b) ∧
  ∀ g : Tr Ob, (∀ b, rd.testBit b = true ∨ Foot wr nx nx' b → g.get b = h.get b) → ∃ g', (∀ lg, F g nx lg = .ok a (.mk g' nx' (lg.cat rd wr))) ∧ ∀ b, g'.get b = if Foot wr nx nx' b then h'.get b else g.get b
def Loc {α : Type} (F : RunT α) : Prop := ∀ h nx lg a h' nx' lg', F h nx lg = .ok a (.mk h' nx' lg') → ∃ rd wr, lg' = lg.cat rd wr ∧ LocAt F h nx a h' nx' rd wr
noncomputable def bindR {α β : Type} (F : RunT α) (G : α → RunT β) : RunT β := fun h nx lg => Rs.rec .bad (fun a σ => St.rec (fun h nx lg => G a h nx lg) σ) (F h nx lg)
theorem Loc.ret {α : Type} (a : α) : Loc (fun h nx lg => .ok a (.mk h nx lg)) := by
  intro h nx lg a' h' nx' lg' e
  cases e
  refine ⟨0, 0, (Lg.cat_nil _).symm, Nat.le_refl _, fun _ _ => rfl, fun g _ => ⟨g, fun lg => by rw [Lg.cat_nil], fun b => ?_⟩⟩
  rw [if_neg]
  rintro (h1 | ⟨h1, h2⟩)
  · exact absurd h1 (has_zero _)
  · omega
theorem Loc.bad {α : Type} : Loc (fun _ _ _ => (.bad : Rs α)) := by
  intro h nx lg a' h' nx' lg' e
  cases e
theorem Loc.bind {α β : Type} {F : RunT α} {G : α → RunT β} (hF : Loc F) (hG : ∀ a, Loc (G a)) : Loc (bindR F G) := by
  intro h nx lg b h2 nx2 lg2 e
  unfold bindR at e
  cases hf : F h nx lg with
  | bad => rw [hf] at e; cases e
  | ok a σ =>
    rw [hf] at e
    cases σ with
    | mk h1 nx1 lg1 =>
      have e : G a h1 nx1 lg1 = .ok b (.mk h2 nx2 lg2) := e
      obtain ⟨rd1, wr1, l1, n1, f1, k1⟩ := hF _ _ _ _ _ _ _ hf
      obtain ⟨rd2, wr2, l2, n2, f2, k2⟩ := hG a _ _ _ _ _ _ _ e
      refine ⟨rd2 ||| rd1, wr2 ||| wr1, by rw [l2, l1, Lg.cat_cat], by omega, ?_, ?_⟩
      · intro c hc
        rw [f2 c (fun x => hc ?_), f1 c (fun x => hc ?_)]
        · rcases x with x | x
          · exact .inl ((has_or _ _ _).2 (.inr x))
          · exact .inr ⟨x.1, by omega⟩
        · rcases x with x | x
          · exact .inl ((has_or _ _ _).2 (.inl x))
          · exact .inr ⟨by omega, x.2⟩
      · intro g hg
        obtain ⟨g1, e1, q1⟩ := k1 g (by
          intro c hc
          refine hg c ?_
          rcases hc with hc | hc | hc
          · exact .inl ((has_or _ _ _).2 (.inr hc))
          · exact .inr (.inl ((has_or _ _ _).2 (.inr hc)))
          · exact .inr (.inr ⟨hc.1, by omega⟩))
        obtain ⟨g2, e2, q2⟩ := k2 g1 (by
          intro c hc
          rw [q1 c]
          by_cases hx : Foot wr1 nx nx1 c
          · rw [if_pos hx]
          · rw [if_neg hx, f1 c hx]
            refine hg c ?_
            rcases hc with hc | hc | hc
            · exact .inl ((has_or _ _ _).2 (.inl hc))
            · exact .inr (.inl ((has_or _ _ _).2 (.inl hc)))
            · exact .inr (.inr ⟨by omega, hc.2⟩))
        refine ⟨g2, ?_, ?_⟩
        · intro lg
          unfold bindR
          rw [e1 lg]
          show G a g1 nx1 (lg.cat rd1 wr1) = _
          rw [e2, Lg.cat_cat]
        · intro c
          rw [q2 c, q1 c]
          by_cases h2' : Foot wr2 nx1 nx2 c
          · rw [if_pos h2', if_pos]
            rcases h2' with x | x
            · exact .inl ((has_or _ _ _).2 (.inl x))
            · exact .inr ⟨by omega, x.2⟩
          · rw [if_neg h2', ← f2 c h2']
            by_cases h1' : Foot wr1 nx nx1 c
            · rw [if_pos h1', if_pos]
              rcases h1' with x | x
              · exact .inl ((has_or _ _ _).2 (.inr x))
              · exact .inr ⟨x.1, by omega⟩
            · rw [if_neg h1', if_neg]
              rintro (x | x)
              · rcases (has_or _ _ _).1 x with x | x
                · exact h2' (.inl x)
                · exact h1' (.inl x)
              · rcases Nat.lt_or_ge c nx1 with y | y
                · exact h1' (.inr ⟨x.1, y⟩)
                · exact h2' (.inr ⟨y, x.2⟩)

/-! ### single steps -/
noncomputable def readF {α : Type} (b : Nat) (f : Option Ob → Option α) : RunT α := fun h nx lg => match f (h.get b) with | none => .bad | some a => .ok a (.mk h nx (lg.rd b))
noncomputable def writeF (b : Nat) (f : Option Ob → Option Ob) : RunT Unit := fun h nx lg => match f (h.get b) with | none => .bad | some o => .ok () (.mk (h.set b o) nx (lg.wr b))
noncomputable def newF (o : Ob) : RunT Nat := fun h nx lg => match h.get nx with | none => .ok nx (.mk (h.set nx o) (nx + 1) lg) | some _ => .bad
theorem Loc.read {α : Type} (b : Nat) (f : Option Ob → Option α) : Loc (readF b f) := by
  intro h nx lg a h' nx' lg' e
  have e : (match f (h.get b) with | none => .bad | some a => .ok a (.mk h nx (lg.rd b)) : Rs α) = .ok a (.mk h' nx' lg') := e
  cases hf : f (h.get b) with
  | none => rw [hf] at e; cases e
  | some x =>
    rw [hf] at e
    cases e
    refine ⟨2 ^ b, 0, Lg.rd_eq _ _, Nat.le_refl _, fun _ _ => rfl, fun g hg => ⟨g, fun lg => ?_, fun c => ?_⟩⟩
    · show (match f (g.get b) with | none => .bad | some a => .ok a (.mk g nx (lg.rd b)) : Rs α) = _
      rw [hg b (.inl ((has_one b b).2 rfl)), hf, Lg.rd_eq]
    · rw [if_neg]
      rintro (h1 | ⟨h1, h2⟩)
      · exact absurd h1 (has_zero _)
      · omega
theorem Loc.write (b : Nat) (f : Option Ob → Option Ob) : Loc (writeF b f) := by
  intro h nx lg a h' nx' lg' e
  have e : (match f (h.get b) with | none => .bad | some o => .ok () (.mk (h.set b o) nx (lg.wr b)) : Rs Unit) = .ok a (.mk h' nx' lg') := e
  cases hf : f (h.get b) with
  | none => rw [hf] at e; cases e
  | some o =>
    rw [hf] at e
    cases e
    have hft : ∀ c, Foot (2 ^ b) nx nx c ↔ c = b := by
      intro c
      constructor
      · rintro (h1 | ⟨h1, h2⟩)
        · exact (has_one b c).1 h1
        · omega
      · intro e; exact .inl ((has_one b c).2 e)
    refine ⟨0, 2 ^ b, Lg.wr_eq _ _, Nat.le_refl _, ?_, fun g hg => ⟨g.set b o, fun lg => ?_, fun c => ?_⟩⟩
    · intro c hc
      rw [Tr.get_set, if_neg (fun e => hc ((hft c).2 e))]
    · show (match f (g.get b) with | none => .bad | some o => .ok () (.mk (g.set b o) nx (lg.wr b)) : Rs Unit) = _
      rw [hg b (.inr ((hft b).2 rfl)), hf, Lg.wr_eq]
    · rw [Tr.get_set]
      by_cases hc : c = b
      · subst hc; rw [if_pos rfl, if_pos ((hft c).2 rfl), Tr.get_set, if_pos rfl]
      · rw [if_neg hc, if_neg (fun e => hc ((hft c).1 e))]
theorem Loc.new (o : Ob) : Loc (newF o) := by
  intro h nx lg a h' nx' lg' e
  have e : (match h.get nx with | none => .ok nx (.mk (h.set nx o) (nx + 1) lg) | some _ => .bad : Rs Nat) = .ok a (.mk h' nx' lg') := e
  cases hf : h.get nx with
  | some o => rw [hf] at e; cases e
  | none =>
    rw [hf] at e
    cases e
    have hft : ∀ c, Foot 0 nx (nx + 1) c ↔ c = nx := by
      intro c
      constructor
      · rintro (h1 | ⟨h1, h2⟩)
        · exact absurd h1 (has_zero _)
        · omega
      · intro e; exact .inr ⟨by omega, by omega⟩
    refine ⟨0, 0, (Lg.cat_nil _).symm, by omega, ?_, fun g hg => ⟨g.set nx o, fun lg => ?_, fun c => ?_⟩⟩
    · intro c hc
      rw [Tr.get_set, if_neg (fun e => hc ((hft c).2 e))]
    · show (match g.get nx with | none => .ok nx (.mk (g.set nx o) (nx + 1) lg) | some _ => .bad : Rs Nat) = _
      rw [hg nx (.inr ((hft nx).2 rfl)), hf, Lg.cat_nil]
    · rw [Tr.get_set]
      by_cases hc : c = nx
      · subst hc; rw [if_pos rfl, if_pos ((hft c).2 rfl), Tr.get_set, if_pos rfl]
      · rw [if_neg hc, if_neg (fun e => hc ((hft c).1 e))]
theorem Loc.congr {α : Type} {F G : RunT α} (h : ∀ a b c, F a b c = G a b c) (hG : Loc G) : Loc F := by
  have : F = G := by funext a b c; exact h a b c
  rw [this]; exact hG
/-! ### trees -/
def optR {α β : Type} (x : Option α) (G : α → Rs β) : Rs β := match x with
  | none => .bad
  | some a => G a
theorem readF_bind {α β : Type} (b : Nat) (f : Option Ob → Option α) (G : α → RunT β) (h : Tr Ob) (nx : Nat) (lg : Lg) : bindR (readF b f) G h nx lg = optR (f (h.get b)) fun a => G a h nx (lg.rd b) := by
  unfold bindR readF
  cases f (h.get b) <;> rfl
theorem writeF_bind {β : Type} (b : Nat) (f : Option Ob → Option Ob) (G : Unit → RunT β) (h : Tr Ob) (nx : Nat) (lg : Lg) : bindR (writeF b f) G h nx lg = optR (f (h.get b)) fun o => G () (h.set b o) nx (lg.wr b) := by
  unfold bindR writeF
  cases f (h.get b) <;> rfl
theorem newF_bind {β : Type} (o : Ob) (G : Nat → RunT β) (h : Tr Ob) (nx : Nat) (lg : Lg) : bindR (newF o) G h nx lg = match h.get nx with | none => G nx (h.set nx o) (nx + 1) lg | some _ => .bad := by
  unfold bindR newF
  cases h.get nx <;> rfl
/-- A row that lives: what is made of it. -/
def rowO {α : Type} (k : TypeId → Nat → Bool → RL V → Option α) : Option Ob → Option α
  | some (.cells el es ex true cs) => k el es ex cs
  | _ => none
def mapO {α : Type} (k : List (V × V) → Option α) : Option Ob → Option α
  | some (.map es) => k es
  | _ => none
theorem row_read {α β : Type} (x : Option Ob) (f : TypeId → Nat → Bool → RL V → Rs β) (k : TypeId → Nat → Bool → RL V → Option α) (G : α → Rs β) (hk : ∀ el es ex cs, f el es ex cs = optR (k el es ex cs) G) :
    asRow .bad f x = optR (rowO k x) G := by
  cases x with
  | none => rfl
  | some ob => cases ob with
    | map es => rfl
    | cells el es ex live cs => cases live with
      | false => rfl
      | true => exact hk el es ex cs
theorem map_read {α β : Type} (x : Option Ob) (f : List (V × V) → Rs β) (k : List (V × V) → Option α) (G : α → Rs β) (hk : ∀ es, f es = optR (k es) G) :
    asMap .bad f x = optR (mapO k x) G := by
  cases x with
  | none => rfl
  | some ob => cases ob with
    | map es => exact hk es
    | cells el es ex live cs => rfl
noncomputable def b1 {α : Type} (c : Bool) (x : Rs α) : Rs α := Bool.rec .bad x c
noncomputable def b3 {α : Type} (c1 c2 c3 : Bool) (x : Rs α) : Rs α := Bool.rec .bad (Bool.rec .bad (Bool.rec .bad x c3) c2) c1
theorem b1_eq {α β : Type} (c : Bool) (x : Rs α) (o : β) (G : β → Rs α) (h : x = G o) : b1 c x = optR (if c = true then some o else none) G := by
  cases c
  · rfl
  · exact h
theorem b3_eq {α β : Type} (c1 c2 c3 : Bool) (x : Rs α) (o : β) (G : β → Rs α) (h : x = G o) : b3 c1 c2 c3 x = optR (if c1 = true ∧ c2 = true ∧ c3 = true then some o else none) G := by
  cases c1 <;> cases c2 <;> cases c3 <;> first
    | rfl
    | exact h
theorem pr_loc {α : Type} (p : Pr α) : Loc p.run := by
  induction p with
  | ret a => exact Loc.ret a
  | bad n => exact Loc.bad
  | cell b o k ih =>
    refine Loc.congr (fun h nx lg => ?_) (Loc.bind (Loc.read b (rowO fun _ _ _ cs => cs.get o)) ih)
    rw [readF_bind]
    refine row_read (h.get b) _ _ (fun v => (k v).run h nx (lg.rd b)) fun el es ex cs => ?_
    cases cs.get o with
    | none => rfl
    | some v => exact rdK_eq lg b _
  | setc b o v k ih =>
    refine Loc.congr (fun h nx lg => ?_) (Loc.bind (Loc.write b (rowO fun el es ex cs => if Nat.ble RO b = true ∧ oneC v = true ∧ Nat.ble (Nat.succ o) cs.len = true then some (.cells el es ex true (cs.set o v)) else none)) fun _ => ih)
    rw [writeF_bind]
    exact row_read (h.get b) (fun el es ex cs => b3 (Nat.ble RO b) (oneC v) (Nat.ble (Nat.succ o) cs.len) (lg.wrK b (k.run (h.set b (.cells el es ex true (cs.set o v))) nx))) _ (fun ob => k.run (h.set b ob) nx (lg.wr b)) fun el es ex cs => b3_eq _ _ _ _ _ (fun ob => k.run (h.set b ob) nx (lg.wr b)) (wrK_eq lg b _)
  | rows b lo n k ih =>
    refine Loc.congr (fun h nx lg => ?_) (Loc.bind (Loc.read b (rowO fun _ _ _ cs => if Nat.ble (Nat.add lo n) cs.len = true then some ((cs.drop lo).take n) else none)) ih)
    rw [readF_bind]
    refine row_read (h.get b) _ _ (fun v => (k v).run h nx (lg.rd b)) fun el es ex cs => ?_
    show (Bool.rec .bad (lg.rdK b ((k ((cs.drop lo).take n)).run h nx)) (Nat.ble (Nat.add lo n) cs.len) : Rs _) = _
    rw [rdK_eq]
    cases Nat.ble (Nat.add lo n) cs.len <;> rfl
  | sets b lo nw k ih =>
    refine Loc.congr (fun h nx lg => ?_) (Loc.bind (Loc.write b (rowO fun el es ex cs => if Nat.ble RO b = true ∧ allOne nw = true ∧ Nat.ble (Nat.add lo nw.len) cs.len = true then some (.cells el es ex true (setRL nw cs lo)) else none)) fun _ => ih)
    rw [writeF_bind]
    exact row_read (h.get b) (fun el es ex cs => b3 (Nat.ble RO b) (allOne nw) (Nat.ble (Nat.add lo nw.len) cs.len) (lg.wrK b (k.run (h.set b (.cells el es ex true (setRL nw cs lo))) nx))) _ (fun ob => k.run (h.set b ob) nx (lg.wr b)) fun el es ex cs => b3_eq _ _ _ _ _ (fun ob => k.run (h.set b ob) nx (lg.wr b)) (wrK_eq lg b _)
  | info b k ih =>
    refine Loc.congr (fun h nx lg => ?_) (Loc.bind (α := Nat × Nat × Bool) (G := fun x => (k x.1 x.2.1 x.2.2).run) (Loc.read b (rowO fun _ es ex cs => some (es, cs.len, ex))) (fun (x : Nat × Nat × Bool) => ih x.1 x.2.1 x.2.2))
    rw [readF_bind]
    exact row_read (h.get b) _ _ (fun (x : Nat × Nat × Bool) => (k x.1 x.2.1 x.2.2).run h nx (lg.rd b)) fun el es ex cs => rdK_eq lg b _
  | new o k ih =>
    refine Loc.congr (fun h nx lg => ?_) (Loc.bind (Loc.new o) ih)
    rw [newF_bind]
    show (Option.rec ((k nx).run (h.set nx o) (Nat.succ nx) lg) (fun _ => .bad) (h.get nx) : Rs α) = _
    cases h.get nx <;> rfl
  | kill b k ih =>
    refine Loc.congr (fun h nx lg => ?_) (Loc.bind (Loc.write b (rowO fun el es ex cs => if Nat.ble RO b = true then some (.cells el es ex false cs) else none)) fun _ => ih)
    rw [writeF_bind]
    exact row_read (h.get b) (fun el es ex cs => b1 (Nat.ble RO b) (lg.wrK b (k.run (h.set b (.cells el es ex false cs)) nx))) _ (fun ob => k.run (h.set b ob) nx (lg.wr b)) fun el es ex cs => b1_eq _ _ _ (fun ob => k.run (h.set b ob) nx (lg.wr b)) (wrK_eq lg b _)
  | getM r k ih =>
    refine Loc.congr (fun h nx lg => ?_) (Loc.bind (Loc.read r (mapO fun es => some es)) ih)
    rw [readF_bind]
    refine map_read (h.get r) _ _ (fun v => (k v).run h nx (lg.rd r)) fun es => ?_
    exact rdK_eq lg r _
  | setM r es k ih =>
    refine Loc.congr (fun h nx lg => ?_) (Loc.bind (Loc.write r (mapO fun _ => if Nat.ble RO r = true then some (.map es) else none)) fun _ => ih)
    rw [writeF_bind]
    exact map_read (h.get r) (fun _ => b1 (Nat.ble RO r) (lg.wrK r (k.run (h.set r (.map es)) nx))) _ (fun ob => k.run (h.set r ob) nx (lg.wr r)) fun es0 => b1_eq _ _ _ (fun ob => k.run (h.set r ob) nx (lg.wr r)) (wrK_eq lg r _)
end Go.Vm
namespace Go.Vm
/-- What comes of code, without the state. -/
inductive Oc
  | nm (t : Tm)
  | ex (n : Nat) (t : Tm)
  | rt (t : Tm)
def R.rs : R → Rs Oc
  | .bad => .bad
  | .nm t σ => .ok (.nm t) σ
  | .ex n t σ => .ok (.ex n t) σ
  | .rt t σ => .ok (.rt t) σ
noncomputable def rF (F : Tm → St → R) (t : Tm) : RunT Oc := fun h nx lg => (F t (.mk h nx lg)).rs
noncomputable def cF (call : CallT) (f : FuncId) (args : List V) : RunT V := fun h nx lg => call f args (.mk h nx lg)
def LocE (F : Tm → St → R) : Prop := ∀ t, Loc (rF F t)
def LocC (call : CallT) : Prop := ∀ f args, Loc (cF call f args)
/-- An operation's run. -/
noncomputable def opX (call : CallT) : Act → RunT V
  | .bad _ => fun _ _ _ => .bad
  | .val x => fun h nx lg => .ok x (.mk h nx lg)
  | .pv p => p.run
  | .pu p => bindR p.run (fun _ h nx lg => .ok undefV (.mk h nx lg))
  | .call f args => cF call f args
theorem act_eq (call : CallT) (d : Option Tmp) (t : Tm) (h : Tr Ob) (nx : Nat) (lg : Lg) (k : Tm → St → R) (A : Act) :
    act call d t (.mk h nx lg) k A = (match opX call A h nx lg with | .bad => .bad | .ok x σ => k (putT d x t) σ) := by
  cases A with
  | bad n => rfl
  | val x => rfl
  | pv p =>
    show aftP d t k (p.run h nx lg) = (match p.run h nx lg with | .bad => .bad | .ok x σ => k (putT d x t) σ)
    cases p.run h nx lg <;> rfl
  | pu p =>
    show aftU d t k (p.run h nx lg) = (match bindR p.run (fun _ h nx lg => .ok undefV (.mk h nx lg)) h nx lg with | .bad => .bad | .ok x σ => k (putT d x t) σ)
    unfold bindR
    cases p.run h nx lg with
    | bad => rfl
    | ok a σ => cases σ; rfl
  | call f args =>
    show aftP d t k (call f args (.mk h nx lg)) = (match call f args (.mk h nx lg) with | .bad => .bad | .ok x σ => k (putT d x t) σ)
    cases call f args (.mk h nx lg) <;> rfl
theorem opX_loc {call : CallT} (hc : LocC call) (A : Act) : Loc (opX call A) := by
  cases A with
  | bad n => exact Loc.bad
  | val x => exact Loc.ret x
  | pv p => exact pr_loc p
  | pu p => exact Loc.bind (pr_loc p) fun _ => Loc.ret undefV
  | call f args => exact hc f args
theorem act_loc {call : CallT} (hc : LocC call) (d : Option Tmp) (t : Tm) {k : Tm → St → R} (hk : LocE k) (A : Act) : Loc (fun h nx lg => (act call d t (.mk h nx lg) k A).rs) := by
  refine Loc.congr (fun h nx lg => ?_) (Loc.bind (opX_loc hc A) fun x => hk (putT d x t))
  rw [act_eq]
  unfold bindR
  cases opX call A h nx lg with
  | bad => rfl
  | ok x σ => cases σ; rfl
theorem wantR_rs (x : Option Bool) (no yes : R) : (wantR x no yes).rs = match x with | none => .bad | some false => no.rs | some true => yes.rs := by
  cases x with
  | none => rfl
  | some c => cases c <;> rfl
theorem evOps_loc {call : CallT} (hc : LocC call) (cx : Cx) (ops : List Oper) : ∀ l : List Oper, LocE (evOps call cx ops l)
  | [] => fun t => Loc.ret (Oc.nm t)
  | o :: l => by
    intro t
    have ih := evOps_loc hc cx ops l
    refine Loc.congr (G := fun h nx lg => match wanted o.guard ops cx t with | none => .bad | some false => rF (evOps call cx ops l) (putT o.dst undefV t) h nx lg | some true => (act call o.dst t (.mk h nx lg) (evOps call cx ops l) (vop o.op cx t)).rs) (fun h nx lg => ?_) ?_
    · unfold rF
      rw [evOps_cons, wantR_rs]
    · cases wanted o.guard ops cx t with
      | none => exact Loc.bad
      | some c => cases c with
        | false => exact ih _
        | true => exact act_loc hc o.dst t ih _

/-! ### regions that are drawn -/
theorem Loc.at {α : Type} {F : Nat → RunT α} (h : ∀ n, Loc (F n)) : Loc (fun g nx lg => F nx g nx lg) := fun g nx lg => h nx g nx lg
structure Mk (α : Type) where
  val : α
  rd : Nat
  wr : Nat
  lo : Nat
  hi : Nat
/-- A run, and what it reads and writes. -/
noncomputable def markF {α : Type} (X : RunT α) : RunT (Mk α) := fun h nx lg => match X h nx (.on 0 0) with
  | .ok v (.mk h1 nx1 (.on rd wr)) => .ok ⟨v, rd, wr, nx, nx1⟩ (.mk h1 nx1 (lg.cat rd wr))
  | _ => .bad
theorem markF_loc {α : Type} {X : RunT α} (hX : Loc X) : Loc (markF X) := by
  intro h nx lg a h' nx' lg' e
  unfold markF at e
  cases hx : X h nx (.on 0 0) with
  | bad => rw [hx] at e; cases e
  | ok v σ =>
    cases σ with
    | mk h1 nx1 lg1 =>
      obtain ⟨rd, wr, q1, q2, q3, q4⟩ := hX _ _ _ _ _ _ _ hx
      rw [hx] at e
      rw [q1, Lg.cat_eq] at e
      simp only [Nat.or_zero] at e
      cases e
      refine ⟨rd, wr, rfl, q2, q3, fun g hg => ?_⟩
      obtain ⟨g', k1, k2⟩ := q4 g hg
      refine ⟨g', fun lg => ?_, k2⟩
      unfold markF
      rw [k1, Lg.cat_eq]
      simp only [Nat.or_zero]
noncomputable def DrF (call : CallT) (cx : Cx) (ops : List Oper) : List Oper → List Fp → Tm → RunT Oc
  | [], fps, t => fun h nx lg => match okDr fps (befs ops [] 0) fps.length with
    | true => .ok (.nm t) (.mk h nx lg)
    | false => .bad
  | o :: l, fps, t => match wanted o.guard ops cx t with
    | none => fun _ _ _ => .bad
    | some false => fun h nx lg => DrF call cx ops l (.mk 0 0 nx nx :: fps) (putT o.dst undefV t) h nx lg
    | some true => bindR (markF (opX call (vop o.op cx t))) fun m => DrF call cx ops l (.mk m.rd m.wr m.lo m.hi :: fps) (putT o.dst m.val t)
theorem DrF_loc {call : CallT} (hc : LocC call) (cx : Cx) (ops : List Oper) : ∀ (l : List Oper) (fps : List Fp) (t : Tm), Loc (DrF call cx ops l fps t)
  | [], fps, t => by
    unfold DrF
    cases okDr fps (befs ops [] 0) fps.length with
    | true => exact Loc.ret _
    | false => exact Loc.bad
  | o :: l, fps, t => by
    unfold DrF
    cases wanted o.guard ops cx t with
    | none => exact Loc.bad
    | some c => cases c with
      | false => exact Loc.at fun n => DrF_loc hc cx ops l (.mk 0 0 n n :: fps) (putT o.dst undefV t)
      | true => exact Loc.bind (markF_loc (opX_loc hc _)) fun m => DrF_loc hc cx ops l (.mk m.rd m.wr m.lo m.hi :: fps) (putT o.dst m.val t)
theorem catR_eq (f : Fp) (l : List Fp) (r : Nat) : catR (f :: l) r = (match f with | .mk rd _ _ _ => rd ||| catR l r) := by cases f; rfl
theorem catW_eq (f : Fp) (l : List Fp) (r : Nat) : catW (f :: l) r = (match f with | .mk _ wr _ _ => wr ||| catW l r) := by cases f; rfl
theorem catR_app (l : List Fp) : ∀ r, catR l r = catR l 0 ||| r := by
  induction l with
  | nil => intro r; show r = 0 ||| r; simp
  | cons f l ih => intro r; rw [catR_eq, catR_eq]; cases f; simp only; rw [ih r, Nat.or_assoc]
theorem catW_app (l : List Fp) : ∀ r, catW l r = catW l 0 ||| r := by
  induction l with
  | nil => intro r; show r = 0 ||| r; simp
  | cons f l ih => intro r; rw [catW_eq, catW_eq]; cases f; simp only; rw [ih r, Nat.or_assoc]
theorem catK_eq {β : Type} (fps : List Fp) (lg : Lg) (k : Lg → β) : catK fps lg k = k (lg.cat (catR fps 0) (catW fps 0)) := by
  rw [Lg.cat_eq]
  cases lg with
  | off => rfl
  | on r w =>
    show forceN (catR fps r) (fun r => forceN (catW fps w) fun w => k (.on r w)) = _
    rw [forceN_eq, forceN_eq, catR_app, catW_app fps w]
theorem evDr_cons (call : CallT) (cx : Cx) (ops : List Oper) (lg : Lg) (o : Oper) (l : List Oper) (fps : List Fp) (t : Tm) (h : Tr Ob) (nx : Nat) :
    evDr call cx ops lg (o :: l) fps t h nx = wantR (wanted o.guard ops cx t) (evDr call cx ops lg l (.mk 0 0 nx nx :: fps) (putT o.dst undefV t) h nx) (act call o.dst t (.mk h nx (.on 0 0)) (drK nx (evDr call cx ops lg l) fps) (vop o.op cx t)) := by
  cases o; rfl
theorem evDr_eq {call : CallT} (hc : LocC call) (cx : Cx) (ops : List Oper) (lg : Lg) : ∀ (l : List Oper) (fps : List Fp) (t : Tm) (h : Tr Ob) (nx : Nat),
    (evDr call cx ops lg l fps t h nx).rs = DrF call cx ops l fps t h nx (lg.cat (catR fps 0) (catW fps 0))
  | [], fps, t, h, nx => by
    show R.rs (Bool.rec .bad (catK fps lg (fun lg => .nm t (.mk h nx lg))) (okDr fps (befs ops [] 0) fps.length)) = (match okDr fps (befs ops [] 0) fps.length with | true => .ok (.nm t) (.mk h nx (lg.cat (catR fps 0) (catW fps 0))) | false => .bad)
    rw [catK_eq]
    cases okDr fps (befs ops [] 0) fps.length <;> rfl
  | o :: l, fps, t, h, nx => by
    rw [evDr_cons, wantR_rs]
    unfold DrF
    cases wanted o.guard ops cx t with
    | none => rfl
    | some c => cases c with
      | false =>
        show (evDr call cx ops lg l (.mk 0 0 nx nx :: fps) (putT o.dst undefV t) h nx).rs = DrF call cx ops l (.mk 0 0 nx nx :: fps) (putT o.dst undefV t) h nx (lg.cat (catR fps 0) (catW fps 0))
        rw [evDr_eq hc cx ops lg l, catR_eq, catW_eq]
        simp only [Nat.zero_or]
      | true =>
        show (act call o.dst t (.mk h nx (.on 0 0)) (drK nx (evDr call cx ops lg l) fps) (vop o.op cx t)).rs = bindR (markF (opX call (vop o.op cx t))) (fun m => DrF call cx ops l (.mk m.rd m.wr m.lo m.hi :: fps) (putT o.dst m.val t)) h nx (lg.cat (catR fps 0) (catW fps 0))
        rw [act_eq]
        unfold bindR markF
        cases hx : opX call (vop o.op cx t) h nx (.on 0 0) with
        | bad => rfl
        | ok v σ =>
          cases σ with
          | mk h1 nx1 lg1 =>
            cases lg1 with
            | off => rfl
            | on rd wr =>
              show (evDr call cx ops lg l (.mk rd wr nx nx1 :: fps) (putT o.dst v t) h1 nx1).rs = DrF call cx ops l (.mk rd wr nx nx1 :: fps) (putT o.dst v t) h1 nx1 ((lg.cat (catR fps 0) (catW fps 0)).cat rd wr)
              rw [evDr_eq hc cx ops lg l, Lg.cat_cat, catR_eq, catW_eq]
theorem evReg_loc {call : CallT} (hc : LocC call) (cx : Cx) (ops : List Oper) (draw : Bool) : LocE (evReg draw call cx ops) := by
  intro t
  cases draw with
  | false => exact evOps_loc hc cx ops ops t
  | true =>
    refine Loc.congr (fun h nx lg => ?_) (DrF_loc hc cx ops ops [] t)
    show (evDr call cx ops lg ops [] t h nx).rs = _
    rw [evDr_eq hc]
    show DrF call cx ops ops [] t h nx (lg.cat 0 0) = _
    rw [Lg.cat_nil]
/-! ### control and calls -/
theorem seqK_loc {F : RunT Oc} {r : Tr Ob → Nat → Lg → R} (hr : ∀ h nx lg, (r h nx lg).rs = F h nx lg) (hF : Loc F) {k : Tm → St → R} (hk : LocE k) : Loc (fun h nx lg => (seqK k (r h nx lg)).rs) := by
  refine Loc.congr (G := bindR F fun o => match o with | .nm t => rF k t | .ex n t => fun h nx lg => .ok (.ex n t) (.mk h nx lg) | .rt t => fun h nx lg => .ok (.rt t) (.mk h nx lg)) (fun h nx lg => ?_) (Loc.bind hF fun o => ?_)
  · unfold bindR
    rw [← hr]
    cases r h nx lg with
    | bad => rfl
    | nm t σ => cases σ; rfl
    | ex n t σ => cases σ; rfl
    | rt t σ => cases σ; rfl
  · cases o with
    | nm t => exact hk t
    | ex n t => exact Loc.ret _
    | rt t => exact Loc.ret _
theorem blockK_loc {F : RunT Oc} {r : Tr Ob → Nat → Lg → R} (hr : ∀ h nx lg, (r h nx lg).rs = F h nx lg) (hF : Loc F) (id : Nat) : Loc (fun h nx lg => (blockK id (r h nx lg)).rs) := by
  refine Loc.congr (G := bindR F fun o h nx lg => .ok (match o with | .nm t => .nm t | .ex n t => (match Nat.beq n id with | true => .nm t | false => .ex n t) | .rt t => .rt t) (.mk h nx lg)) (fun h nx lg => ?_) (Loc.bind hF fun o => Loc.ret _)
  unfold bindR
  rw [← hr]
  cases r h nx lg with
  | bad => rfl
  | nm t σ => cases σ; rfl
  | rt t σ => cases σ; rfl
  | ex n t σ =>
    cases σ
    show R.rs (Bool.rec (.ex n t _) (.nm t _) (Nat.beq n id)) = .ok (match Nat.beq n id with | true => .nm t | false => .ex n t) _
    cases Nat.beq n id <;> rfl
theorem loadRes_loc (cx : Cx) (t : Tm) : ∀ (rs : List ResultVar) (acc : List V), Loc (fun h nx lg => loadRes cx t rs acc (.mk h nx lg))
  | [], acc => Loc.ret _
  | .tmp i :: rs, acc => loadRes_loc cx t rs (orU (t.get i) :: acc)
  | .cell a ty :: rs, acc => by
    refine Loc.congr (fun h nx lg => ?_) (Loc.bind (pr_loc (vload (orU (t.get a)) cx ty)) fun v => loadRes_loc cx t rs (v :: acc))
    show (Rs.rec .bad (fun v σ => loadRes cx t rs (v :: acc) σ) ((vload (orU (t.get a)) cx ty).run h nx lg) : Rs (List V)) = _
    unfold bindR
    cases (vload (orU (t.get a)) cx ty).run h nx lg with
    | bad => rfl
    | ok v σ => cases σ; rfl
theorem packR_loc {F : RunT (List V)} (hF : Loc F) : Loc (fun h nx lg => packR (F h nx lg)) := by
  refine Loc.congr (fun h nx lg => ?_) (Loc.bind hF fun vs => Loc.ret (packV vs))
  unfold bindR
  cases F h nx lg with
  | bad => rfl
  | ok v σ => cases σ; rfl
theorem call_loc {ev : EvT} (hev : ∀ c, LocE (ev c)) (cx : Cx) : LocC (callOf ev cx) := by
  intro f args
  show Loc (fun h nx lg => callFu ev cx args (.mk h nx lg) (cx.fu.get f))
  cases cx.fu.get f with
  | none => exact Loc.bad
  | some fu =>
    cases fu with
    | mk n res body =>
      refine Loc.congr (G := bindR (rF (ev body) (argsTm args 0 .nil)) fun o => match o with | .nm t => fun h nx lg => packR (loadRes cx t res [] (.mk h nx lg)) | .ex _ _ => fun _ _ _ => .bad | .rt t => fun h nx lg => packR (loadRes cx t res [] (.mk h nx lg))) (fun h nx lg => ?_) (Loc.bind (hev body _) fun o => ?_)
      · show retOf cx res (ev body (argsTm args 0 .nil) (.mk h nx lg)) = _
        unfold bindR rF
        cases ev body (argsTm args 0 .nil) (.mk h nx lg) with
        | bad => rfl
        | nm t σ => cases σ; rfl
        | ex n t σ => cases σ; rfl
        | rt t σ => cases σ; rfl
      · cases o with
        | nm t => exact packR_loc (loadRes_loc cx t res [])
        | ex n t => exact Loc.bad
        | rt t => exact packR_loc (loadRes_loc cx t res [])
    | sum g => exact pr_loc (g cx.pc args)
theorem evC_loc {ev : EvT} (hev : ∀ c, LocE (ev c)) (cx : Cx) (c : Code) : LocE (evC c ev cx) := by
  intro t
  cases c with
  | skip => exact Loc.ret _
  | region id ops draw => exact evReg_loc (call_loc hev cx) cx ops.toList draw t
  | seq a b => exact seqK_loc (F := rF (ev a) t) (fun _ _ _ => rfl) (hev a t) (hev b)
  | cond c a b =>
    show Loc (fun h nx lg => (condV (Tm.ev c t) cx (ev a t (.mk h nx lg)) (ev b t (.mk h nx lg))).rs)
    cases Tm.ev c t with
    | none => exact Loc.bad
    | some v =>
      cases v with
      | b e =>
        show Loc (fun h nx lg => (condD (cx.dec e) (ev a t (.mk h nx lg)) (ev b t (.mk h nx lg))).rs)
        cases cx.dec e with
        | none => exact Loc.bad
        | some x => cases x with
          | true => exact hev a t
          | false => exact hev b t
      | _ => exact Loc.bad
  | block id b => exact blockK_loc (F := rF (ev b) t) (fun _ _ _ => rfl) (hev b t) id
  | loop b => exact seqK_loc (F := rF (ev b) t) (fun _ _ _ => rfl) (hev b t) (hev (.loop b))
  | exit m => exact Loc.ret _
  | scope b => exact hev b t
  | ret => exact Loc.ret _
  | _ => exact Loc.bad
theorem ev_loc (cx : Cx) : ∀ (n : Nat) (c : Code), LocE (ev cx n c)
  | 0, _ => fun _ => Loc.bad
  | n + 1, c => evC_loc (ev_loc cx n) cx c
end Go.Vm
namespace Go.Vm
theorem evs_congr {t t' : Tm} : ∀ (l : List Operand), (∀ x ∈ l, Tm.ev x t = Tm.ev x t') → evs t l = evs t' l
  | [], _ => rfl
  | x :: l, h => by
    simp only [evs, h x List.mem_cons_self, evs_congr l fun y hy => h y (List.mem_cons_of_mem _ hy)]
theorem evp_congr {t t' : Tm} : ∀ (l : List (Nat × Operand)), (∀ x ∈ l.map (·.2), Tm.ev x t = Tm.ev x t') → evp t l = evp t' l
  | [], _ => rfl
  | x :: l, h => by
    simp only [evp, h x.2 List.mem_cons_self, evp_congr l fun y hy => h y (List.mem_cons_of_mem _ hy)]
theorem evo_congr {t t' : Tm} (x : Option Operand) (h : ∀ y ∈ x, Tm.ev y t = Tm.ev y t') : evo t x = evo t' x := by
  cases x with
  | none => rfl
  | some x => simp only [evo, h x rfl]
theorem vop0_congr (cx : Cx) {t t' : Tm} (op : Op) (h : ∀ x ∈ op.operands.toList, Tm.ev x t = Tm.ev x t') : vop0 op cx t = vop0 op cx t' := by
  cases op with
  | move x => have := h x (by simp [Op.operands]); simp only [vop0, opMove, this]
  | assign x => have := h x (by simp [Op.operands]); simp only [vop0, opMove, this]
  | pick c x y =>
    have h1 := h c (by simp [Op.operands])
    have h2 := h x (by simp [Op.operands])
    have h3 := h y (by simp [Op.operands])
    simp only [vop0, opPick, h1, h2, h3]
  | alloc e => rfl
  | box e x => have := h x (by simp [Op.operands]); simp only [vop0, opBox, this]
  | build bt ps =>
    have := evp_congr ps.toList (fun x hx => h x (by simpa [Op.operands] using hx))
    simp only [vop0, opBuild, this]
  | buildSlice bt n ps =>
    have := evp_congr ps.toList (fun x hx => h x (by simpa [Op.operands] using hx))
    simp only [vop0, opBuildSlice, this]
  | load ty x => have := h x (by simp [Op.operands]); simp only [vop0, opLoad, this]
  | store ty x y =>
    have h1 := h x (by simp [Op.operands])
    have h2 := h y (by simp [Op.operands])
    simp only [vop0, opStore, h1, h2]
  | nilCheck x => have := h x (by simp [Op.operands]); simp only [vop0, opNil, this]
  | binOp op ty x y yt =>
    have h1 := h x (by simp [Op.operands])
    have h2 := h y (by simp [Op.operands])
    simp only [vop0, opBin, h1, h2]
  | unOp op ty x => have := h x (by simp [Op.operands]); simp only [vop0, opUn, this]
  | convert s d x => have := h x (by simp [Op.operands]); simp only [vop0, opConv, this]
  | makeInterface ty x => have := h x (by simp [Op.operands]); simp only [vop0, opIface, this]
  | makeFunc f a b =>
    have h1 := evs_congr a.toList (fun x hx => h x (by simp only [Op.operands, Array.toList_append, List.mem_append]; exact .inl hx))
    have h2 := evs_congr b.toList (fun x hx => h x (by simp only [Op.operands, Array.toList_append, List.mem_append]; exact .inr hx))
    cases f <;> simp only [vop0, opFunc1, opFunc, h1, h2]
  | makeMap ty r => cases r <;> rfl
  | makeSlice ty l c =>
    have h1 := h l (by simp [Op.operands])
    have h2 := h c (by simp [Op.operands])
    simp only [vop0, opMakeSlice, h1, h2]
  | slice ty x lo hi mx =>
    have h1 := h x (by simp [Op.operands])
    have h2 := evo_congr lo (fun y hy => h y (by simp [Op.operands]; exact .inr (.inl hy)))
    have h3 := evo_congr hi (fun y hy => h y (by simp [Op.operands]; exact .inr (.inr (.inl hy))))
    have h4 := evo_congr mx (fun y hy => h y (by simp [Op.operands]; exact .inr (.inr (.inr hy))))
    simp only [vop0, opSlice, h1, h2, h3, h4]
  | fieldAddr ty x f => have := h x (by simp [Op.operands]); simp only [vop0, opFieldAddr, this]
  | field ty x f => have := h x (by simp [Op.operands]); simp only [vop0, opField, this]
  | indexAddr ty x i =>
    have h1 := h x (by simp [Op.operands])
    have h2 := h i (by simp [Op.operands])
    simp only [vop0, opIndexAddr, h1, h2]
  | lookup ty x i ok =>
    have h1 := h x (by simp [Op.operands])
    have h2 := h i (by simp [Op.operands])
    simp only [vop0, opLookup, h1, h2]
  | mapUpdate ty m k x =>
    have h1 := h m (by simp [Op.operands])
    have h2 := h k (by simp [Op.operands])
    have h3 := h x (by simp [Op.operands])
    simp only [vop0, opMapUpd, h1, h2, h3]
  | insert ty m k x =>
    have h1 := h m (by simp [Op.operands])
    have h2 := h k (by simp [Op.operands])
    have h3 := h x (by simp [Op.operands])
    simp only [vop0, opMapUpd, h1, h2, h3]
  | extract x i => have := h x (by simp [Op.operands]); simp only [vop0, opExtract, this]
  | call c =>
    obtain ⟨callee, args, tys⟩ := c
    have h1 := evs_congr args.toList (fun x hx => h x (by cases callee <;> simp [Op.operands, Call.operands] <;> simp at hx <;> first | exact hx | exact .inr hx | exact .inl hx))
    cases callee with
    | value f =>
      have h2 := h f (by simp [Op.operands, Call.operands])
      simp only [vop0, opCall, h1, calleeV, h2]
    | invoke rv nm => simp only [vop0, opCall, h1, calleeV]
    | builtin b => simp only [vop0, opCall, h1, calleeV]
  | _ => rfl
theorem vop_congr (cx : Cx) {t t' : Tm} (op : Op) (h : ∀ x ∈ op.operands.toList, Tm.ev x t = Tm.ev x t') : vop op cx t = vop op cx t' := by
  unfold vop
  rw [vop0_congr cx op h]
theorem ev_congr {t t' : Tm} (x : Operand) (h : ∀ d, x = .tmp d → t.get d = t'.get d) : Tm.ev x t = Tm.ev x t' := by
  cases x with
  | tmp i => show some (orU (t.get i)) = some (orU (t'.get i)); rw [h i rfl]
  | _ => rfl
/-- By what an operation looks at. -/
theorem vop_looks (cx : Cx) {t t' : Tm} (ops : Array Oper) (o : Oper) (h : ∀ d ∈ o.looksAt ops, t.get d = t'.get d) : vop o.op cx t = vop o.op cx t' := by
  refine vop_congr cx o.op fun x hx => ev_congr x fun d hd => h d ?_
  subst hd
  unfold Oper.looksAt
  refine List.mem_append_left _ (List.mem_filterMap.2 ⟨.tmp d, hx, rfl⟩)
theorem wanted_looks (cx : Cx) {t t' : Tm} (ops : Array Oper) (o : Oper) (h : ∀ d ∈ o.looksAt ops, t.get d = t'.get d) : wanted o.guard ops.toList cx t = wanted o.guard ops.toList cx t' := by
  cases hg : o.guard with
  | none => rfl
  | some g =>
    obtain ⟨j, want⟩ := g
    show guardT ops.toList cx t j want = guardT ops.toList cx t' j want
    unfold guardT
    rw [dstOf_eq, Array.getElem?_toList]
    cases hd : (ops[j]?).bind (·.dst) with
    | none => rfl
    | some d =>
      have : t.get d = t'.get d := h d (by
        unfold Oper.looksAt
        refine List.mem_append_right _ ?_
        simp only [hg, hd]
        simp)
      simp only [this]
end Go.Vm
namespace Go.Vm
/-- The run in the text's order. -/
structure Tc (call : CallT) (cx : Cx) (ops : Array Oper) (T : Nat → Tm) (H : Nat → Tr Ob) (N : Nat → Nat) (W : Nat → V) (RD WR : Nat → Nat) (F : Nat → List Fp) (i n : Nat) : Prop where
  step : ∀ k o, i ≤ k → k < n → ops[k]? = some o → T (k + 1) = putT o.dst (W k) (T k) ∧ F (k + 1) = .mk (RD k) (WR k) (N k) (N (k + 1)) :: F k ∧
    ((wanted o.guard ops.toList cx (T k) = some false ∧ W k = undefV ∧ H (k + 1) = H k ∧ N (k + 1) = N k ∧ RD k = 0 ∧ WR k = 0) ∨
     (wanted o.guard ops.toList cx (T k) = some true ∧ opX call (vop o.op cx (T k)) (H k) (N k) (.on 0 0) = .ok (W k) (.mk (H (k + 1)) (N (k + 1)) (.on (RD k) (WR k)))))
def upd {α : Type} (f : Nat → α) (i : Nat) (a : α) : Nat → α := fun k => if k = i then a else f k
theorem upd_same {α : Type} (f : Nat → α) (i : Nat) (a : α) : upd f i a i = a := if_pos rfl
theorem upd_ne {α : Type} (f : Nat → α) {i k : Nat} (a : α) (h : k ≠ i) : upd f i a k = f k := if_neg h
theorem trace_of {call : CallT} {cx : Cx} {ops : Array Oper} : ∀ (l : List Oper) (i : Nat) (fps : List Fp) (t : Tm) (h : Tr Ob) (nx : Nat) (lg : Lg) (oc : Oc) (h' : Tr Ob) (nx' : Nat) (lg' : Lg), ops.toList.drop i = l →
    DrF call cx ops.toList l fps t h nx lg = .ok oc (.mk h' nx' lg') → ∃ T H N W RD WR F, Tc call cx ops T H N W RD WR F i (i + l.length) ∧ T i = t ∧ H i = h ∧ N i = nx ∧ F i = fps ∧
      oc = .nm (T (i + l.length)) ∧ h' = H (i + l.length) ∧ nx' = N (i + l.length) ∧ okDr (F (i + l.length)) (befs ops.toList [] 0) (F (i + l.length)).length = true
  | [], i, fps, t, h, nx, lg, oc, h', nx', lg', hl, e => by
    unfold DrF at e
    cases hok : okDr fps (befs ops.toList [] 0) fps.length with
    | false => rw [hok] at e; cases e
    | true =>
      rw [hok] at e
      cases e
      exact ⟨fun _ => t, fun _ => h, fun _ => nx, fun _ => undefV, fun _ => 0, fun _ => 0, fun _ => fps, ⟨fun k o h1 h2 => by simp at h2; omega⟩, rfl, rfl, rfl, rfl, rfl, rfl, rfl, hok⟩
  | o :: l, i, fps, t, h, nx, lg, oc, h', nx', lg', hl, e => by
    have hoi : ops[i]? = some o := by
      rw [← Array.getElem?_toList]
      have := List.getElem?_drop (xs := ops.toList) (i := i) (j := 0)
      rw [hl] at this
      simpa using this.symm
    have hl' : ops.toList.drop (i + 1) = l := by
      have := List.drop_drop (i := 1) (j := i) (l := ops.toList)
      rw [hl] at this
      simpa [Nat.add_comm] using this.symm
    have glue : ∀ (v : V) (h1 : Tr Ob) (nx1 : Nat) (rd wr : Nat) (lg1 : Lg), DrF call cx ops.toList l (.mk rd wr nx nx1 :: fps) (putT o.dst v t) h1 nx1 lg1 = .ok oc (.mk h' nx' lg') →
        ((wanted o.guard ops.toList cx t = some false ∧ v = undefV ∧ h1 = h ∧ nx1 = nx ∧ rd = 0 ∧ wr = 0) ∨ (wanted o.guard ops.toList cx t = some true ∧ opX call (vop o.op cx t) h nx (.on 0 0) = .ok v (.mk h1 nx1 (.on rd wr)))) →
        ∃ T H N W RD WR F, Tc call cx ops T H N W RD WR F i (i + (o :: l).length) ∧ T i = t ∧ H i = h ∧ N i = nx ∧ F i = fps ∧
          oc = .nm (T (i + (o :: l).length)) ∧ h' = H (i + (o :: l).length) ∧ nx' = N (i + (o :: l).length) ∧ okDr (F (i + (o :: l).length)) (befs ops.toList [] 0) (F (i + (o :: l).length)).length = true := by
      intro v h1 nx1 rd wr lg1 e1 hcase
      obtain ⟨T, H, N, W, RD, WR, F, q, q1, q2, q3, q4, q5, q6, q7, q8⟩ := trace_of l (i + 1) _ _ _ _ _ _ _ _ _ hl' e1
      have hlen : i + (o :: l).length = i + 1 + l.length := by rw [List.length_cons]; omega
      rw [hlen]
      refine ⟨upd T i t, upd H i h, upd N i nx, upd W i v, upd RD i rd, upd WR i wr, upd F i fps, ⟨?_⟩, upd_same _ _ _, upd_same _ _ _, upd_same _ _ _, upd_same _ _ _, ?_, ?_, ?_, ?_⟩
      · intro k o' hk1 hk2 ho'
        by_cases hk : k = i
        · subst hk
          rw [hoi] at ho'; cases ho'
          simp only [upd_same]
          rw [upd_ne T t (show k + 1 ≠ k by omega), upd_ne H h (show k + 1 ≠ k by omega), upd_ne N nx (show k + 1 ≠ k by omega), upd_ne F fps (show k + 1 ≠ k by omega), q1, q2, q3, q4]
          exact ⟨rfl, rfl, hcase⟩
        · rw [upd_ne T t (show k + 1 ≠ i by omega), upd_ne H h (show k + 1 ≠ i by omega), upd_ne N nx (show k + 1 ≠ i by omega), upd_ne F fps (show k + 1 ≠ i by omega), upd_ne T t hk, upd_ne H h hk, upd_ne N nx hk, upd_ne F fps hk, upd_ne W v hk, upd_ne RD rd hk, upd_ne WR wr hk]
          exact q.step k o' (by omega) hk2 ho'
      · rw [upd_ne T t (show i + 1 + l.length ≠ i by omega)]; exact q5
      · rw [upd_ne H h (show i + 1 + l.length ≠ i by omega)]; exact q6
      · rw [upd_ne N nx (show i + 1 + l.length ≠ i by omega)]; exact q7
      · rw [upd_ne F fps (show i + 1 + l.length ≠ i by omega)]; exact q8
    unfold DrF at e
    cases hw : wanted o.guard ops.toList cx t with
    | none => rw [hw] at e; cases e
    | some c =>
      rw [hw] at e
      cases c with
      | false => exact glue undefV h nx 0 0 lg e (.inl ⟨hw, rfl, rfl, rfl, rfl, rfl⟩)
      | true =>
        have e : bindR (markF (opX call (vop o.op cx t))) (fun m => DrF call cx ops.toList l (.mk m.rd m.wr m.lo m.hi :: fps) (putT o.dst m.val t)) h nx lg = .ok oc (.mk h' nx' lg') := e
        unfold bindR markF at e
        cases hx : opX call (vop o.op cx t) h nx (.on 0 0) with
        | bad => rw [hx] at e; cases e
        | ok v σ =>
          rw [hx] at e
          cases σ with
          | mk h1 nx1 lg1 =>
            cases lg1 with
            | off => cases e
            | on rd wr => exact glue v h1 nx1 rd wr _ e (.inr ⟨hw, hx⟩)

/-! ### what the check says -/
/-- Operation j stands ahead of operation i. -/
noncomputable def bitsAt (ops : Array Oper) : Nat → List Nat
  | 0 => []
  | k + 1 => (match ops[k]? with | some o => bitsOf (bitsAt ops k) k o.after.toList | none => 0) :: bitsAt ops k
noncomputable def bit (ops : Array Oper) (i j : Nat) : Bool := Nat.testBit ((bitsAt ops (i + 1)).headD 0) j
theorem befs_eq (ops : Array Oper) : ∀ (l : List Oper) (i : Nat), ops.toList.drop i = l → befs l (bitsAt ops i) i = bitsAt ops (i + l.length)
  | [], i, _ => rfl
  | o :: l, i, hl => by
    have hoi : ops[i]? = some o := by
      rw [← Array.getElem?_toList]
      have := List.getElem?_drop (xs := ops.toList) (i := i) (j := 0)
      rw [hl] at this
      simpa using this.symm
    have hl' : ops.toList.drop (i + 1) = l := by
      have := List.drop_drop (i := 1) (j := i) (l := ops.toList)
      rw [hl] at this
      simpa [Nat.add_comm] using this.symm
    have ih := befs_eq ops l (i + 1) hl'
    rw [List.length_cons, show i + (l.length + 1) = i + 1 + l.length by omega, ← ih]
    show befs l (bitsOf (bitsAt ops i) i o.after.toList :: bitsAt ops i) (i + 1) = befs l (bitsAt ops (i + 1)) (i + 1)
    simp only [bitsAt, hoi]
theorem bool_and {c x : Bool} (h : (Bool.rec false x c : Bool) = true) : c = true ∧ x = true := by
  cases c
  · cases h
  · exact ⟨rfl, h⟩
theorem range_has (lo hi b : Nat) : (rangeM lo hi).testBit b = true ↔ lo ≤ b ∧ b < hi := by
  show (Nat.shiftLeft (Nat.sub (2 ^ (hi - lo)) 1) lo).testBit b = true ↔ _
  show (((2 ^ (hi - lo)) - 1) <<< lo).testBit b = true ↔ _
  rw [Nat.testBit_shiftLeft, Nat.testBit_two_pow_sub_one]
  simp
  omega
theorem foot_has (wr lo hi b : Nat) : (footM wr lo hi).testBit b = true ↔ Foot wr lo hi b := by
  show (wr ||| rangeM lo hi).testBit b = true ↔ _
  rw [has_or, range_has]
  rfl
theorem land_zero {a b : Nat} (h : Nat.beq (Nat.land a b) 0 = true) (c : Nat) : ¬ (a.testBit c = true ∧ b.testBit c = true) := by
  rintro ⟨h1, h2⟩
  have h0 : a &&& b = 0 := Nat.eq_of_beq_eq_true h
  have : (a &&& b).testBit c = true := by rw [Nat.testBit_and, h1, h2]; rfl
  rw [h0] at this
  exact has_zero c this
/-- Two operations that do not meet. -/
theorem okPair_ok {rd wr lo hi rd' wr' lo' hi' : Nat} (h : okPair (.mk rd wr lo hi) (.mk rd' wr' lo' hi') = true) :
    (∀ b, (rd.testBit b = true ∨ Foot wr lo hi b) → ¬ Foot wr' lo' hi' b) ∧ (∀ b, Foot wr lo hi b → ¬ (rd'.testBit b = true ∨ Foot wr' lo' hi' b)) := by
  obtain ⟨h1, h2⟩ := bool_and h
  refine ⟨fun b hb hb' => land_zero h1 b ⟨?_, (foot_has _ _ _ _).2 hb'⟩, fun b hb hb' => land_zero h2 b ⟨(foot_has _ _ _ _).2 hb, ?_⟩⟩
  · refine (has_or _ _ _).2 (hb.imp id fun x => (foot_has _ _ _ _).2 x)
  · refine (has_or _ _ _).2 (hb'.imp id fun x => (foot_has _ _ _ _).2 x)
end Go.Vm
namespace Go.Vm
theorem okRow_ok (bits : Nat) (a : Fp) (F : Nat → List Fp) (fp : Nat → Fp) : ∀ (k : Nat), (∀ j, j < k → F (j + 1) = fp j :: F j) → F 0 = [] → okRow bits a (F k) k = true → ∀ j, j < k → Nat.testBit bits j = false → okPair a (fp j) = true
  | 0, _, _, _, j, hj, _ => by omega
  | k + 1, hF, h0, h, j, hj, hb => by
    rw [hF k (by omega)] at h
    have h : (Bool.rec (Bool.rec false (okRow bits a (F k) (k + 1 - 1)) (okPair a (fp k))) (okRow bits a (F k) (k + 1 - 1)) (Nat.testBit bits (k + 1 - 1)) : Bool) = true := h
    rw [Nat.add_sub_cancel] at h
    have ih := okRow_ok bits a F fp k (fun j hj => hF j (by omega)) h0
    by_cases e : j = k
    · subst e
      rw [hb] at h
      exact (bool_and h).1
    · cases hk : Nat.testBit bits k with
      | true => rw [hk] at h; exact ih h j (by omega) hb
      | false => rw [hk] at h; exact ih (bool_and h).2 j (by omega) hb
theorem okDr_ok (ops : Array Oper) (F : Nat → List Fp) (fp : Nat → Fp) : ∀ (n : Nat), (∀ j, j < n → F (j + 1) = fp j :: F j) → F 0 = [] → okDr (F n) (bitsAt ops n) n = true → ∀ i, i < n → ∀ j, j < i → bit ops i j = false → okPair (fp i) (fp j) = true
  | 0, _, _, _, i, hi, _, _, _ => by omega
  | n + 1, hF, h0, h, i, hi, j, hj, hb => by
    rw [hF n (by omega)] at h
    have h : (Bool.rec false (okDr (F n) (bitsAt ops n) (n + 1 - 1)) (okRow ((bitsAt ops (n + 1)).headD 0) (fp n) (F n) (n + 1 - 1)) : Bool) = true := h
    rw [Nat.add_sub_cancel] at h
    obtain ⟨h1, h2⟩ := bool_and h
    by_cases e : i = n
    · subst e
      exact okRow_ok _ _ F fp i (fun j hj => hF j (by omega)) h0 h1 j hj hb
    · exact okDr_ok ops F fp n (fun j hj => hF j (by omega)) h0 h2 i (by omega) j hj hb
/-- What a bit says: an edge that binds, or a way over one. -/
theorem rnth_eq : ∀ (l : List Nat) (n : Nat), rnth l n = (l[n]?).getD 0
  | [], _ => rfl
  | x :: _, 0 => rfl
  | _ :: l, n + 1 => rnth_eq l n
theorem bitsAt_get (ops : Array Oper) : ∀ (n k : Nat), k < n → (bitsAt ops n)[n - 1 - k]? = some ((bitsAt ops (k + 1)).headD 0)
  | 0, k, h => by omega
  | n + 1, k, h => by
    by_cases e : k = n
    · subst e
      rw [show k + 1 - 1 - k = 0 by omega]
      rfl
    · have ih := bitsAt_get ops n k (by omega)
      rw [show n + 1 - 1 - k = (n - 1 - k) + 1 by omega]
      exact ih
theorem bitsOf_has (acc : List Nat) (n j : Nat) : ∀ (es : List Edge), (bitsOf acc n es).testBit j = true → ∃ e ∈ es, binding e.ground = true ∧ e.on < n ∧ (j = e.on ∨ (rnth acc (n - 1 - e.on)).testBit j = true)
  | [], h => absurd h (has_zero j)
  | e :: es, h => by
    obtain ⟨on, g⟩ := e
    have h : Nat.testBit (Bool.rec (bitsOf acc n es) (Bool.rec (bitsOf acc n es) ((2 ^ on ||| rnth acc (n - 1 - on)) ||| bitsOf acc n es) (Nat.ble (on + 1) n)) (binding g)) j = true := h
    have ih : (bitsOf acc n es).testBit j = true → ∃ e ∈ (Edge.mk on g :: es), binding e.ground = true ∧ e.on < n ∧ (j = e.on ∨ (rnth acc (n - 1 - e.on)).testBit j = true) := fun h =>
      let ⟨e, h1, h2⟩ := bitsOf_has acc n j es h
      ⟨e, List.mem_cons_of_mem _ h1, h2⟩
    cases hb : binding g with
    | false => rw [hb] at h; exact ih h
    | true =>
      rw [hb] at h
      cases hn : Nat.ble (on + 1) n with
      | false => rw [hn] at h; exact ih h
      | true =>
        rw [hn] at h
        rcases (has_or _ _ _).1 h with h | h
        · rcases (has_or _ _ _).1 h with h | h
          · exact ⟨⟨on, g⟩, List.mem_cons_self, hb, Nat.le_of_ble_eq_true hn, .inl ((has_one _ _).1 h)⟩
          · exact ⟨⟨on, g⟩, List.mem_cons_self, hb, Nat.le_of_ble_eq_true hn, .inr h⟩
        · exact ih h
theorem binding_eq (e : Edge) : Region.binds .any e = binding e.ground := by
  obtain ⟨on, g⟩ := e
  cases g <;> rfl
/-- A set of operations that holds, with each, the ones that its binding edges name, holds all that stand ahead. -/
theorem bit_in (ops : Array Oper) (S : Nat → Prop) : ∀ (i : Nat) (o : Oper), ops[i]? = some o → (∀ e ∈ o.after.toList, Region.binds .any e = true → S e.on) →
    (∀ k o', S k → ops[k]? = some o' → ∀ e ∈ o'.after.toList, Region.binds .any e = true → S e.on) → ∀ j, bit ops i j = true → S j ∧ j < i := by
  intro i
  induction i using Nat.strongRecOn with
  | _ i ihs =>
    intro o hoi hpre hcl j hb
    have hb : (bitsOf (bitsAt ops i) i o.after.toList).testBit j = true := by
      have : (bitsAt ops (i + 1)).headD 0 = bitsOf (bitsAt ops i) i o.after.toList := by simp only [bitsAt, hoi, List.headD_cons]
      unfold bit at hb
      rwa [this] at hb
    obtain ⟨e, h1, h2, h3, h4⟩ := bitsOf_has _ _ _ _ hb
    have hse := hpre e h1 (by rw [binding_eq]; exact h2)
    rcases h4 with h4 | h4
    · subst h4; exact ⟨hse, h3⟩
    · have hsz : e.on < ops.size := by
        have : i < ops.size := by
          rcases Nat.lt_or_ge i ops.size with h | h
          · exact h
          · rw [Array.getElem?_eq_none h] at hoi; cases hoi
        omega
      have hoe : ops[e.on]? = some ops[e.on] := Array.getElem?_eq_getElem hsz
      rw [rnth_eq, bitsAt_get ops i e.on h3] at h4
      have := ihs e.on h3 _ hoe (hcl e.on _ hse hoe) hcl j h4
      exact ⟨this.1, by omega⟩
end Go.Vm
namespace Go.Vm
def lastIn (p : Nat → Bool) : Nat → Option Nat
  | 0 => none
  | k + 1 => match p k with
    | true => some k
    | false => lastIn p k
theorem lastIn_congr {p q : Nat → Bool} : ∀ k, (∀ j, j < k → p j = q j) → lastIn p k = lastIn q k
  | 0, _ => rfl
  | k + 1, h => by
    simp only [lastIn, h k (by omega)]
    rw [lastIn_congr k fun j hj => h j (by omega)]
theorem lastIn_none {p : Nat → Bool} : ∀ k, (∀ j, j < k → p j = false) → lastIn p k = none
  | 0, _ => rfl
  | k + 1, h => by simp only [lastIn, h k (by omega)]; exact lastIn_none k fun j hj => h j (by omega)
theorem lastIn_cut {p : Nat → Bool} (i : Nat) : ∀ k, i ≤ k → (∀ j, i ≤ j → j < k → p j = false) → lastIn p k = lastIn p i
  | 0, h, _ => by rw [show i = 0 by omega]
  | k + 1, h, hp => by
    by_cases e : i = k + 1
    · rw [e]
    · simp only [lastIn, hp k (by omega) (by omega)]
      exact lastIn_cut i k (by omega) fun j h1 h2 => hp j h1 (by omega)
theorem lastIn_at {p : Nat → Bool} (i : Nat) (hi : p i = true) (k : Nat) (h : i < k) (hp : ∀ j, i < j → j < k → p j = false) : lastIn p k = some i := by
  rw [lastIn_cut (i + 1) k h fun j h1 h2 => hp j h1 h2]
  simp only [lastIn, hi]
/-- What stands in a set where a rival stands just if it is ahead: as in the text's order. -/
theorem lastIn_text {S q : Nat → Bool} {i n : Nat} (hi : i ≤ n) (h : ∀ j, j < n → q j = true → (S j = true ↔ j < i)) : lastIn (fun j => S j && q j) n = lastIn q i := by
  rw [lastIn_cut i n hi]
  · refine lastIn_congr i fun j hj => ?_
    cases hq : q j with
    | false => simp
    | true => rw [(h j (by omega) hq).2 hj]; rfl
  · intro j h1 h2
    cases hq : q j with
    | false => simp
    | true =>
      cases hs : S j with
      | false => rfl
      | true => have := (h j h2 hq).1 hs; omega
section
variable (H : Nat → Tr Ob) (N : Nat → Nat) (W : Nat → V) (WR : Nat → Nat)
def ft (b j : Nat) : Bool := decide (Foot (WR j) (N j) (N (j + 1)) b)
noncomputable def pickH (b : Nat) (o : Option Nat) : Option Ob := match o with
  | some j => (H (j + 1)).get b
  | none => (H 0).get b
theorem text_heap {n : Nat} (hf : ∀ k, k < n → ∀ b, ¬ Foot (WR k) (N k) (N (k + 1)) b → (H (k + 1)).get b = (H k).get b) (b : Nat) : ∀ k, k ≤ n → (H k).get b = pickH H b (lastIn (ft N WR b) k)
  | 0, _ => rfl
  | k + 1, hk => by
    simp only [lastIn]
    cases hq : ft N WR b k with
    | true => rfl
    | false => rw [hf k (by omega) b (of_decide_eq_false hq)]; exact text_heap hf b k (by omega)
end
def dstIs (ops : Array Oper) (d j : Nat) : Bool := decide ((ops[j]?).bind (·.dst) = some d)
noncomputable def pickT (t0 : Tm) (W : Nat → V) (d : Nat) (o : Option Nat) : Option V := match o with
  | some j => some (W j)
  | none => t0.get d
theorem putT_get (dst : Option Tmp) (v : V) (t : Tm) (d : Nat) : (putT dst v t).get d = if dst = some d then some v else t.get d := by
  cases dst with
  | none => simp; rfl
  | some e =>
    show (t.set e v).get d = _
    rw [Tr.get_set]
    by_cases h : d = e
    · rw [if_pos h, if_pos (by rw [h])]
    · rw [if_neg h, if_neg (by intro x; cases x; exact h rfl)]
theorem text_tm {ops : Array Oper} {T : Nat → Tm} {W : Nat → V} {n : Nat} (hn : n ≤ ops.size) (ht : ∀ k o, k < n → ops[k]? = some o → T (k + 1) = putT o.dst (W k) (T k)) (d : Nat) : ∀ k, k ≤ n → (T k).get d = pickT (T 0) W d (lastIn (dstIs ops d) k)
  | 0, _ => rfl
  | k + 1, hk => by
    have hks : k < ops.size := by omega
    have hok : ops[k]? = some ops[k] := Array.getElem?_eq_getElem hks
    rw [ht k _ (by omega) hok, putT_get]
    simp only [lastIn]
    cases hq : dstIs ops d k with
    | true =>
      have : (ops[k]?).bind (·.dst) = some d := of_decide_eq_true hq
      rw [hok] at this
      have this : ops[k].dst = some d := this
      rw [if_pos this]; rfl
    | false =>
      have : ¬ (ops[k]?).bind (·.dst) = some d := of_decide_eq_false hq
      rw [hok] at this
      have this : ¬ ops[k].dst = some d := this
      rw [if_neg this]
      exact text_tm hn ht d k (by omega)
end Go.Vm
namespace Go.Vm
noncomputable def apart2 (ops : Array Oper) (i j : Nat) : Bool := match ops[i]?, ops[j]? with
  | some x, some y => Oper.apart ops x y
  | _, _ => true
noncomputable def edgesOk (ops : Array Oper) (i : Nat) : Bool := match ops[i]? with
  | some o => o.after.toList.all fun e => !(Region.binds .any e) || decide (e.on < i)
  | none => true
/-- What is asked of a region that is drawn: its binding edges go back, and operations without an order do not share a temporary. -/
noncomputable def chkDraw (l : List Oper) : Bool := (List.range l.length).all fun i => edgesOk l.toArray i && (List.range i).all fun j => bit l.toArray i j || apart2 l.toArray i j
theorem chk_edges {ops : Array Oper} (h : chkDraw ops.toList = true) {i : Nat} {o : Oper} (ho : ops[i]? = some o) (hi : i < ops.size) : ∀ e ∈ o.after.toList, Region.binds .any e = true → e.on < i := by
  unfold chkDraw at h
  rw [List.all_eq_true] at h
  have h1 := h i (by simpa using hi)
  obtain ⟨h2, _⟩ := and_true h1
  rw [Array.toArray_toList] at h2
  unfold edgesOk at h2
  rw [ho] at h2
  intro e he hb
  have := (List.all_eq_true.1 h2) e he
  rw [hb] at this
  simpa using this
theorem chk_pair {ops : Array Oper} (h : chkDraw ops.toList = true) {i j : Nat} (hi : i < ops.size) (hj : j < i) : bit ops i j = true ∨ apart2 ops i j = true := by
  unfold chkDraw at h
  rw [List.all_eq_true] at h
  have h1 := h i (by simpa using hi)
  obtain ⟨_, h2⟩ := and_true h1
  rw [Array.toArray_toList] at h2
  have := (List.all_eq_true.1 h2) j (by simpa using hj)
  simpa using this
/-- How many are not listed. -/
def cntU (S : Nat → Bool) : Nat → Nat
  | 0 => 0
  | k + 1 => (match S k with | true => 0 | false => 1) + cntU S k
theorem cntU_zero {S : Nat → Bool} : ∀ n, cntU S n = 0 → ∀ k, k < n → S k = true
  | 0, _, k, hk => by omega
  | n + 1, h, k, hk => by
    simp only [cntU] at h
    cases hs : S n with
    | false => rw [hs] at h; simp at h
    | true =>
      rw [hs] at h
      by_cases e : k = n
      · rw [e]; exact hs
      · exact cntU_zero n (by simpa using h) k (by omega)
theorem cntU_same {S S' : Nat → Bool} : ∀ n, (∀ k, k < n → S' k = S k) → cntU S' n = cntU S n
  | 0, _ => rfl
  | n + 1, h => by simp only [cntU, h n (by omega)]; rw [cntU_same n fun k hk => h k (by omega)]
theorem cntU_dec {S S' : Nat → Bool} {i : Nat} (hi : S i = false) (hi' : S' i = true) (hs : ∀ k, k ≠ i → S' k = S k) : ∀ n, i < n → cntU S' n + 1 = cntU S n
  | 0, h => by omega
  | n + 1, h => by
    by_cases e : n = i
    · subst e
      simp only [cntU, hi, hi']
      rw [cntU_same n fun k hk => hs k (by omega)]
      omega
    · simp only [cntU, hs n e]
      have := cntU_dec hi hi' hs n (by omega)
      omega
/-- The least that is not listed. -/
theorem least_not {S : Nat → Bool} : ∀ n, (∃ k, k < n ∧ S k = false) → ∃ k, k < n ∧ S k = false ∧ ∀ j, j < k → S j = true
  | 0, ⟨k, h, _⟩ => by omega
  | n + 1, ⟨k, h1, h2⟩ => by
    by_cases hx : ∃ k, k < n ∧ S k = false
    · obtain ⟨k, a, b, c⟩ := least_not n hx
      exact ⟨k, by omega, b, c⟩
    · have hk : k = n := by
        by_cases e : k = n
        · exact e
        · exact absurd ⟨k, by omega, h2⟩ hx
      subst hk
      refine ⟨k, h1, h2, fun j hj => ?_⟩
      cases hs : S j with
      | true => rfl
      | false => exact absurd ⟨j, hj, hs⟩ hx
end Go.Vm
namespace Go.Vm
open Go.RowKit
/-- What is known of the run in the text's order. -/
structure Trc (call : CallT) (cx : Cx) (ops : Array Oper) (T : Nat → Tm) (H : Nat → Tr Ob) (N : Nat → Nat) (W : Nat → V) (RD WR : Nat → Nat) (F : Nat → List Fp) : Prop where
  tc : Tc call cx ops T H N W RD WR F 0 ops.size
  pairs : ∀ i, i < ops.size → ∀ j, j < i → bit ops i j = false → okPair (.mk (RD i) (WR i) (N i) (N (i + 1))) (.mk (RD j) (WR j) (N j) (N (j + 1))) = true
  chk : chkDraw ops.toList = true
section
variable {env : Nat → Int} {n0 : Old} {P : Program} {cx : Cx} {call : CallT} {ops : Array Oper} {T : Nat → Tm} {H : Nat → Tr Ob} {N : Nat → Nat} {W : Nat → V} {RD WR : Nat → Nat} {F : Nat → List Fp}
theorem oper_at (ops : Array Oper) {k : Nat} (h : k < ops.size) : ∃ o, ops[k]? = some o := ⟨_, Array.getElem?_eq_getElem h⟩
theorem Trc.locat (z : Trc call cx ops T H N W RD WR F) (hl : LocC call) {k : Nat} {o : Oper} (hk : k < ops.size) (ho : ops[k]? = some o)
    (hx : opX call (vop o.op cx (T k)) (H k) (N k) (.on 0 0) = .ok (W k) (.mk (H (k + 1)) (N (k + 1)) (.on (RD k) (WR k)))) : LocAt (opX call (vop o.op cx (T k))) (H k) (N k) (W k) (H (k + 1)) (N (k + 1)) (RD k) (WR k) := by
  obtain ⟨rd, wr, q1, q2⟩ := opX_loc hl _ _ _ _ _ _ _ _ hx
  rw [Lg.cat_eq] at q1
  simp only [Nat.or_zero, Lg.on.injEq] at q1
  rw [q1.1, q1.2]
  exact q2
theorem Trc.frame (z : Trc call cx ops T H N W RD WR F) (hl : LocC call) (k : Nat) (hk : k < ops.size) : N k ≤ N (k + 1) ∧ ∀ b, ¬ Foot (WR k) (N k) (N (k + 1)) b → (H (k + 1)).get b = (H k).get b := by
  obtain ⟨o, ho⟩ := oper_at ops hk
  obtain ⟨_, _, h⟩ := z.tc.step k o (by omega) hk ho
  rcases h with ⟨_, _, h1, h2, _, _⟩ | ⟨_, hx⟩
  · exact ⟨by omega, fun b _ => by rw [h1]⟩
  · obtain ⟨q1, q2, _⟩ := z.locat hl hk ho hx
    exact ⟨q1, q2⟩
/-- Two operations that meet have an order. -/
def Ord (ops : Array Oper) (i j : Nat) : Prop := (j < i ∧ bit ops i j = true) ∨ (i < j ∧ bit ops j i = true)
theorem Trc.meet (z : Trc call cx ops T H N W RD WR F) {i j b : Nat} (hi : i < ops.size) (hj : j < ops.size) (hij : j ≠ i) (h1 : (RD i).testBit b = true ∨ Foot (WR i) (N i) (N (i + 1)) b) (h2 : Foot (WR j) (N j) (N (j + 1)) b) : Ord ops i j := by
  rcases Nat.lt_or_ge j i with h | h
  · cases hb : bit ops i j with
    | true => exact .inl ⟨h, hb⟩
    | false => exact absurd h2 ((okPair_ok (z.pairs i hi j h hb)).1 b h1)
  · have h : i < j := by omega
    cases hb : bit ops j i with
    | true => exact .inr ⟨h, hb⟩
    | false => exact absurd h1 ((okPair_ok (z.pairs j hj i h hb)).2 b h2)
theorem Trc.share (z : Trc call cx ops T H N W RD WR F) {i j d : Nat} {o o' : Oper} (hi : i < ops.size) (hj : j < ops.size) (hij : j ≠ i) (ho : ops[i]? = some o) (ho' : ops[j]? = some o') (h1 : d ∈ o.looksAt ops ∨ o.dst = some d) (h2 : o'.dst = some d) : Ord ops i j := by
  rcases Nat.lt_or_ge j i with h | h
  · rcases chk_pair z.chk hi h with hb | hb
    · exact .inl ⟨h, hb⟩
    · unfold apart2 at hb
      rw [ho, ho'] at hb
      obtain ⟨a1, a2, a3⟩ := Oper.apart_spec hb
      rcases h1 with h1 | h1
      · exact absurd h1 (a3 d h2)
      · exact absurd h2 (a2 d h1)
  · have h : i < j := by omega
    rcases chk_pair z.chk hj h with hb | hb
    · exact .inr ⟨h, hb⟩
    · unfold apart2 at hb
      rw [ho, ho'] at hb
      obtain ⟨a1, a2, a3⟩ := Oper.apart_spec hb
      rcases h1 with h1 | h1
      · exact absurd h1 (a1 d h2)
      · exact absurd h1 (a2 d h2)
/-- Sets that hold what stands ahead. -/
def Closed (ops : Array Oper) (S : Nat → Bool) : Prop := ∀ k o, S k = true → ops[k]? = some o → ∀ e ∈ o.after.toList, Region.binds .any e = true → S e.on = true
theorem ord_side {S : Nat → Bool} (hc : Closed ops S) {i : Nat} {o : Oper} (hoi : ops[i]? = some o) (hS : S i = false) (hr : ∀ e ∈ o.after.toList, Region.binds .any e = true → S e.on = true) {j : Nat} (hj : j < ops.size) (h : Ord ops i j) : S j = true ↔ j < i := by
  have hc' : ∀ k o', (fun k => S k = true) k → ops[k]? = some o' → ∀ e ∈ o'.after.toList, Region.binds .any e = true → (fun k => S k = true) e.on := fun k o' h1 h2 => hc k o' h1 h2
  rcases h with ⟨h1, h2⟩ | ⟨h1, h2⟩
  · exact ⟨fun _ => h1, fun _ => (bit_in ops (fun k => S k = true) i o hoi hr hc' j h2).1⟩
  · refine ⟨fun hs => ?_, fun h => by omega⟩
    obtain ⟨oj, hoj⟩ := oper_at ops hj
    have := (bit_in ops (fun k => S k = true) j oj hoj (fun e he hb => hc j oj hs hoj e he hb) hc' i h2).1
    have this : S i = true := this
    rw [hS] at this; cases this
end
end Go.Vm
namespace Go.Vm
open Go.RowKit
section
variable {env : Nat → Int} {n0 : Old} {P : Program} {cx : Cx} {call : CallT} {ops : Array Oper} {T : Nat → Tm} {H : Nat → Tr Ob} {N : Nat → Nat} {W : Nat → V} {RD WR : Nat → Nat} {F : Nat → List Fp}
theorem Rel.like {M : Mp} {g h : Tr Ob} {w : World} (r : Rel env n0 M g w) (e : ∀ b, h.get b = g.get b) : Rel env n0 M h w :=
  ⟨fun b hb => r.dom b (by rw [← e]; exact hb), fun b ob hb => r.row b ob (by rw [← e]; exact hb),
   fun b b' o o' p p' h1 h2 => r.inj b b' o o' p p' (by rw [← e]; exact h1) (by rw [← e]; exact h2), r.size, r.old, r.kept, fun b pl ob hb => r.apart b pl ob (by rw [← e]; exact hb)⟩
theorem TmR.like {M : Mp} {t t' : Tm} {tmps : Array Value} (r : TmR env M t tmps) (e : ∀ d, t'.get d = t.get d) : TmR env M t' tmps := fun i => by rw [e]; exact r i
/-- How the state behind a set of operations stands to the run in the text's order. -/
structure Inv (ops : Array Oper) (T : Nat → Tm) (H : Nat → Tr Ob) (N : Nat → Nat) (W : Nat → V) (WR : Nat → Nat) (S : Nat → Bool) (g : Tr Ob) (t : Tm) : Prop where
  heap : ∀ b, g.get b = pickH H b (lastIn (fun j => S j && ft N WR b j) ops.size)
  tms : ∀ d, t.get d = pickT (T 0) W d (lastIn (fun j => S j && dstIs ops d j) ops.size)
theorem Trc.agreeT (z : Trc call cx ops T H N W RD WR F) {S : Nat → Bool} {g : Tr Ob} {t : Tm} (v : Inv ops T H N W WR S g t) (hc : Closed ops S) {i : Nat} {o : Oper} (hi : i < ops.size) (hoi : ops[i]? = some o) (hS : S i = false)
    (hr : ∀ e ∈ o.after.toList, Region.binds .any e = true → S e.on = true) : ∀ d, d ∈ o.looksAt ops ∨ o.dst = some d → t.get d = (T i).get d := by
  intro d hd
  rw [v.tms d, text_tm (Nat.le_refl _) (fun k o hk ho => (z.tc.step k o (by omega) hk ho).1) d i (by omega)]
  congr 1
  refine lastIn_text (by omega) fun j hj hq => ?_
  by_cases e : j = i
  · subst e; rw [hS]; simp
  · obtain ⟨oj, hoj⟩ := oper_at ops hj
    have hdj : (ops[j]?).bind (·.dst) = some d := of_decide_eq_true hq
    rw [hoj] at hdj
    exact ord_side hc hoi hS hr hj (z.share hi hj e hoi hoj hd hdj)
theorem Trc.agreeH (z : Trc call cx ops T H N W RD WR F) (hl : LocC call) {S : Nat → Bool} {g : Tr Ob} {t : Tm} (v : Inv ops T H N W WR S g t) (hc : Closed ops S) {i : Nat} {o : Oper} (hi : i < ops.size) (hoi : ops[i]? = some o) (hS : S i = false)
    (hr : ∀ e ∈ o.after.toList, Region.binds .any e = true → S e.on = true) : ∀ b, (RD i).testBit b = true ∨ Foot (WR i) (N i) (N (i + 1)) b → g.get b = (H i).get b := by
  intro b hb
  rw [v.heap b, text_heap H N WR (n := ops.size) (fun k hk => (z.frame hl k hk).2) b i (by omega)]
  congr 1
  refine lastIn_text (by omega) fun j hj hq => ?_
  by_cases e : j = i
  · subst e; rw [hS]; simp
  · exact ord_side hc hoi hS hr hj (z.meet hi hj e hb (of_decide_eq_true hq))
/-- One more operation. -/
theorem Trc.more (z : Trc call cx ops T H N W RD WR F) {S S' : Nat → Bool} {g g' : Tr Ob} {t : Tm} (v : Inv ops T H N W WR S g t) (hc : Closed ops S) {i : Nat} {o : Oper} (hi : i < ops.size) (hoi : ops[i]? = some o) (hS : S i = false)
    (hr : ∀ e ∈ o.after.toList, Region.binds .any e = true → S e.on = true) (h1 : S' i = true) (h2 : ∀ k, k ≠ i → S' k = S k) (hg : ∀ b, g'.get b = if Foot (WR i) (N i) (N (i + 1)) b then (H (i + 1)).get b else g.get b) :
    Inv ops T H N W WR S' g' (putT o.dst (W i) t) := by
  have last : ∀ (q : Nat → Bool), (∀ j, j < ops.size → j ≠ i → q i = true → q j = true → (S j = true ↔ j < i)) → lastIn (fun j => S' j && q j) ops.size = if q i = true then some i else lastIn (fun j => S j && q j) ops.size := by
    intro q hq
    by_cases hqi : q i = true
    · rw [if_pos hqi]
      refine lastIn_at i (by simp [h1, hqi]) _ hi fun j hj1 hj2 => ?_
      rw [h2 j (by omega)]
      cases hqj : q j with
      | false => simp
      | true =>
        cases hs : S j with
        | false => rfl
        | true => have := (hq j hj2 (by omega) hqi hqj).1 hs; omega
    · rw [if_neg hqi]
      refine lastIn_congr _ fun j hj => ?_
      by_cases e : j = i
      · subst e
        have : q j = false := by simpa using hqi
        simp [this]
      · rw [h2 j e]
  refine ⟨fun b => ?_, fun d => ?_⟩
  · rw [hg b, last (ft N WR b) fun j hj hji hi' hj' => ord_side hc hoi hS hr hj (z.meet hi hj hji (.inr (of_decide_eq_true hi')) (of_decide_eq_true hj'))]
    by_cases hf : Foot (WR i) (N i) (N (i + 1)) b
    · rw [if_pos hf, if_pos (show ft N WR b i = true from decide_eq_true hf)]; rfl
    · rw [if_neg hf, if_neg (by unfold ft; simpa using hf), v.heap b]
  · rw [putT_get, last (dstIs ops d) fun j hj hji hi' hj' => by
      obtain ⟨oj, hoj⟩ := oper_at ops hj
      have e1 : (ops[i]?).bind (·.dst) = some d := of_decide_eq_true hi'
      have e2 : (ops[j]?).bind (·.dst) = some d := of_decide_eq_true hj'
      rw [hoi] at e1
      rw [hoj] at e2
      exact ord_side hc hoi hS hr hj (z.share hi hj hji hoi hoj (.inr e1) e2)]
    by_cases hf : o.dst = some d
    · rw [if_pos hf, if_pos (by unfold dstIs; rw [hoi]; exact decide_eq_true hf)]; rfl
    · rw [if_neg hf, if_neg (by unfold dstIs; rw [hoi]; simpa using hf), v.tms d]
end
end Go.Vm
namespace Go.Vm
open Go.RowKit
section
variable {env : Nat → Int} {n0 : Old} {P : Program} {cx : Cx} {call : CallT} {ops : Array Oper} {T : Nat → Tm} {H : Nat → Tr Ob} {N : Nat → Nat} {W : Nat → V} {RD WR : Nat → Nat} {F : Nat → List Fp}
/-- One operation, told by its run. -/
theorem opX_snd (hT : TabOk P cx) (hp : PcOk env cx.pc) (hc : CallOk env n0 P call) {M : Mp} {h : Tr Ob} {nx : Nat} {lg : Lg} {t : Tm} {w : World} {a : Go.Act} (s : At env n0 M h nx t w a) (o : Oper)
    (hd : okDst a.tmps.size o.dst = true) {v : V} {h' : Tr Ob} {nx' : Nat} {lg' : Lg} (hx : opX call (vop o.op cx t) h nx lg = .ok v (.mk h' nx' lg')) {next : Go.Act → World → Prop} {Q : Post}
    (hk : ∀ M' w' x, At env n0 M' h' nx' (putT o.dst v t) w' (a.put o.dst x) → Bhd n0 M M' a (a.put o.dst x) w w' → next (a.put o.dst x) w') : o.wp P a w next Q := by
  refine act_snd hT hp hc (lg := lg) s o hd (k := fun t σ => .nm t σ) (res := .nm (putT o.dst v t) (.mk h' nx' lg')) ?_ (by simp) ?_
  · rw [act_eq, hx]
  · intro t' h1 nx1 lg1 e M' w' x v' s' _ b
    cases e
    exact hk M' w' x s' b
theorem Trc.nmono (z : Trc call cx ops T H N W RD WR F) (hl : LocC call) : ∀ k, k ≤ ops.size → N 0 ≤ N k
  | 0, _ => Nat.le_refl _
  | k + 1, h => Nat.le_trans (z.nmono hl k (by omega)) (z.frame hl k (by omega)).1
theorem okOps_at {n : Nat} : ∀ (l : List Oper) (i : Nat) (o : Oper), okOps n l = true → l[i]? = some o → okDst n o.dst = true
  | [], _, _, _, h => by cases h
  | x :: l, 0, o, h, e => by cases e; exact (okOps_cons h).1
  | x :: l, i + 1, o, h, e => okOps_at l i o (okOps_cons h).2 e
theorem ready_mem {md : Region.Mode} {listed : Array Bool} {i : Nat} : i ∈ Region.ready md ops listed ↔ i < ops.size ∧ listed.getD i true = false ∧ ∃ o, ops[i]? = some o ∧ ∀ e ∈ o.after.toList, Region.binds md e = true → listed.getD e.on false = true := by
  unfold Region.ready
  rw [List.mem_filter, List.mem_range]
  have key : ∀ o : Oper, (o.after.all fun e => !Region.binds md e || listed.getD e.on false) = true ↔ ∀ e ∈ o.after.toList, Region.binds md e = true → listed.getD e.on false = true := by
    intro o
    rw [← Array.all_toList, List.all_eq_true]
    refine forall_congr' fun e => forall_congr' fun _ => ?_
    cases Region.binds md e <;> simp
  constructor
  · rintro ⟨h1, h2⟩
    obtain ⟨o, ho⟩ := oper_at ops h1
    rw [ho] at h2
    obtain ⟨h3, h4⟩ := and_true h2
    exact ⟨h1, by simpa using h3, o, ho, (key o).1 h4⟩
  · rintro ⟨h1, h2, o, ho, h3⟩
    refine ⟨h1, ?_⟩
    rw [ho, h2]
    exact (key o).2 h3
theorem all_fin (z : Trc call cx ops T H N W RD WR F) (hl : LocC call) {S : Nat → Bool} {g : Tr Ob} {t : Tm} {M : Mp} {a : Go.Act} {w : World} (hS : ∀ k, k < ops.size → S k = true) (v : Inv ops T H N W WR S g t)
    (s : At env n0 M g (N 0) t w a) (hro : RO ≤ N 0) {Q : Post} {lg' : Lg} (hpost : PostR env n0 M a w Q (.nm (T ops.size) (.mk (H ops.size) (N ops.size) lg'))) : Q .normal a w := by
  refine hpost M a w ⟨Rel.like s.rel fun b => ?_, TmR.like s.tm fun d => ?_, Nat.le_trans hro (z.nmono hl _ (Nat.le_refl _))⟩ (Bhd.refl _ _ _)
  · rw [v.heap b, text_heap H N WR (n := ops.size) (fun k hk => (z.frame hl k hk).2) b _ (Nat.le_refl _)]
    congr 1
    exact (lastIn_congr _ fun j hj => by rw [hS j hj]; rfl).symm
  · rw [v.tms d, text_tm (Nat.le_refl _) (fun k o hk ho => (z.tc.step k o (by omega) hk ho).1) d _ (Nat.le_refl _)]
    congr 1
    exact (lastIn_congr _ fun j hj => by rw [hS j hj]; rfl).symm
theorem any_snd (hT : TabOk P cx) (hp : PcOk env cx.pc) (hc : CallOk env n0 P call) (hl : LocC call) (z : Trc call cx ops T H N W RD WR F) {Q : Post} (hro : RO ≤ N 0) {n : Nat} (hok : okOps n ops.toList = true) {lg' : Lg} :
    ∀ (fuel : Nat) (listed : Array Bool) (g : Tr Ob) (t : Tm) (M : Mp) (a : Go.Act) (w : World), listed.size = ops.size → Closed ops (fun j => listed.getD j false) → cntU (fun j => listed.getD j false) ops.size ≤ fuel →
      Inv ops T H N W WR (fun j => listed.getD j false) g t → At env n0 M g (N 0) t w a → a.tmps.size = n → PostR env n0 M a w Q (.nm (T ops.size) (.mk (H ops.size) (N ops.size) lg')) → wpAny P .any ops Q fuel listed a w := by
  have full : ∀ (listed : Array Bool), listed.size = ops.size → Region.ready .any ops listed = [] → ∀ k, k < ops.size → listed.getD k false = true := by
    intro listed hsz hr k hk
    cases hs : listed.getD k false with
    | true => rfl
    | false =>
      obtain ⟨m, m1, m2, m3⟩ := least_not (S := fun j => listed.getD j false) ops.size ⟨k, hk, hs⟩
      obtain ⟨o, ho⟩ := oper_at ops m1
      have hm : m ∈ Region.ready .any ops listed := by
        refine ready_mem.2 ⟨m1, ?_, o, ho, fun e he hb => m3 e.on (chk_edges z.chk ho m1 e he hb)⟩
        have m2 : listed.getD m false = false := m2
        rw [Array.getD_eq_getD_getElem?, Array.getElem?_eq_getElem (by omega)] at m2 ⊢
        exact m2
      rw [hr] at hm; cases hm
  intro fuel
  induction fuel with
  | zero =>
    intro listed g t M a w hsz hcl hcnt v s hn hpost
    have hall := cntU_zero (S := fun j => listed.getD j false) ops.size (by omega)
    refine ⟨?_, all_fin z hl hall v s hro hpost⟩
    refine List.eq_nil_iff_forall_not_mem.2 fun i hi => ?_
    obtain ⟨h1, h2, _⟩ := ready_mem.1 hi
    have := hall i h1
    have this : listed.getD i false = true := this
    rw [Array.getD_eq_getD_getElem?, Array.getElem?_eq_getElem (by omega)] at this h2
    simp at this h2
    rw [this] at h2; cases h2
  | succ fuel ih =>
    intro listed g t M a w hsz hcl hcnt v s hn hpost
    refine ⟨fun hr => all_fin z hl (full listed hsz hr) v s hro hpost, fun i hi => ?_⟩
    obtain ⟨h1, h2, o, ho, h3⟩ := ready_mem.1 hi
    have hS : (fun j => listed.getD j false) i = false := by
      show listed.getD i false = false
      rw [Array.getD_eq_getD_getElem?, Array.getElem?_eq_getElem (by omega)] at h2 ⊢
      exact h2
    have hS1 : (fun j => (listed.setIfInBounds i true).getD j false) i = true := by
      show (listed.setIfInBounds i true).getD i false = true
      rw [Array.getD_eq_getD_getElem?, Array.getElem?_setIfInBounds, if_pos rfl, if_pos (by omega)]; rfl
    have hS2 : ∀ k, k ≠ i → (fun j => (listed.setIfInBounds i true).getD j false) k = (fun j => listed.getD j false) k := by
      intro k hk
      show (listed.setIfInBounds i true).getD k false = listed.getD k false
      rw [Array.getD_eq_getD_getElem?, Array.getElem?_setIfInBounds, if_neg (fun e => hk e.symm), Array.getD_eq_getD_getElem?]
    have hcl' : Closed ops (fun j => (listed.setIfInBounds i true).getD j false) := by
      intro k o' hk ho' e he hb
      have base : listed.getD e.on false = true := by
        by_cases ek : k = i
        · subst ek; rw [ho] at ho'; cases ho'; exact h3 e he hb
        · exact hcl k o' (by rw [← hS2 k ek]; exact hk) ho' e he hb
      by_cases ee : e.on = i
      · rw [ee]; exact hS1
      · rw [hS2 _ ee]; exact base
    have hcnt' := cntU_dec hS hS1 hS2 ops.size h1
    have hat := z.agreeT v hcl h1 ho hS h3
    have hah := z.agreeH hl v hcl h1 ho hS h3
    have hdst : okDst a.tmps.size o.dst = true := by rw [hn]; exact okOps_at _ i o hok (by rw [Array.getElem?_toList]; exact ho)
    obtain ⟨st1, st2, st3⟩ := z.tc.step i o (by omega) h1 ho
    have hvop : vop o.op cx t = vop o.op cx (T i) := vop_looks cx ops o fun d hd => hat d (.inl hd)
    have hwan : wanted o.guard ops.toList cx t = wanted o.guard ops.toList cx (T i) := wanted_looks cx ops o fun d hd => hat d (.inl hd)
    show (match ops[i]? with | none => _ | some o => _)
    rw [ho]
    rcases st3 with ⟨w1, w2, w3, w4, w5, w6⟩ | ⟨w1, hx⟩
    · have hno := wanted_ok hp s.tm ops o (hwan.trans w1)
      simp only [hno, Bool.false_eq_true, if_false]
      have hv := z.more (g' := g) v hcl h1 ho hS h3 hS1 hS2 fun b => by
        by_cases hf : Foot (WR i) (N i) (N (i + 1)) b
        · rw [if_pos hf, w3]; exact hah b (.inr hf)
        · rw [if_neg hf]
      rw [w2] at hv
      exact ih _ g _ M _ w (by simpa using hsz) hcl' (by omega) hv ⟨s.rel, TmR.put s.tm undef_ok (dst_lt hdst), s.ro⟩ (by rw [Act.put_size]; exact hn) (hpost.later (bhd_put M.le_refl (Below.refl _ _) _ _))
    · have hyes := wanted_ok hp s.tm ops o (hwan.trans w1)
      simp only [hyes, if_true]
      obtain ⟨_, _, q3⟩ := z.locat hl h1 ho hx
      obtain ⟨g', k1, k2⟩ := q3 g hah
      have hv := z.more (g' := g') v hcl h1 ho hS h3 hS1 hS2 k2
      refine .inl (opX_snd hT hp hc (lg := .off) (nx := N i) ⟨s.rel, s.tm, Nat.le_trans hro (z.nmono hl i (by omega))⟩ o hdst (by rw [hvop]; exact k1 .off) fun M' w' x s' b => ?_)
      exact ih _ g' _ M' _ w' (by simpa using hsz) hcl' (by omega) hv ⟨s'.rel, s'.tm, hro⟩ (by rw [Act.put_size]; exact hn) (hpost.later b)
end
end Go.Vm
namespace Go.Vm
open Go.RowKit
section
variable {env : Nat → Int} {n0 : Old} {P : Program} {cx : Cx} {call : CallT}
theorem draw_snd (hT : TabOk P cx) (hp : PcOk env cx.pc) (hm : P.follows .mixedOrders = true) (hc : CallOk env n0 P call) (hl : LocC call) : DrawOk env n0 P chkDraw cx call := by
  intro id ops M h nx lg t w a res Q hok hchk s hres hpost
  have hres : evDr call cx ops.toList lg ops.toList [] t h nx = res := hres
  have hdf := evDr_eq hl cx ops.toList lg ops.toList [] t h nx
  rw [hres] at hdf
  have main : ∀ (oc : Oc) (h' : Tr Ob) (nx' : Nat) (lg' : Lg), res.rs = .ok oc (.mk h' nx' lg') → (Code.region id ops true).wp P Q a w := by
    intro oc h' nx' lg' e
    obtain ⟨T, H, N, W, RD, WR, F, q, q1, q2, q3, q4, q5, q6, q7, q8⟩ := trace_of ops.toList 0 [] t h nx _ oc h' nx' lg' rfl (hdf.symm.trans e)
    have hlen : 0 + ops.toList.length = ops.size := by simp
    rw [hlen] at q q5 q6 q7 q8
    have hF : ∀ j, j < ops.size → F (j + 1) = .mk (RD j) (WR j) (N j) (N (j + 1)) :: F j := fun j hj => by
      obtain ⟨o, ho⟩ := oper_at ops hj
      exact (q.step j o (by omega) hj ho).2.1
    have hFl : ∀ j, j ≤ ops.size → (F j).length = j := by
      intro j
      induction j with
      | zero => intro _; rw [q4]; rfl
      | succ j ih => intro hj; rw [hF j (by omega), List.length_cons, ih (by omega)]
    rw [hFl _ (Nat.le_refl _)] at q8
    have hb := befs_eq ops ops.toList 0 rfl
    rw [hlen] at hb
    have hb : befs ops.toList [] 0 = bitsAt ops ops.size := hb
    rw [hb] at q8
    have z : Trc call cx ops T H N W RD WR F := ⟨q, okDr_ok ops F (fun k => .mk (RD k) (WR k) (N k) (N (k + 1))) ops.size hF q4 q8, hchk⟩
    have hro : RO ≤ N 0 := by rw [q3]; exact s.ro
    have hS : ∀ j, (Array.replicate ops.size false).getD j false = false := by
      intro j
      rw [Array.getD_eq_getD_getElem?, Array.getElem?_replicate]
      split <;> rfl
    subst q5 q6 q7
    have hr : res = .nm (T ops.size) (.mk (H ops.size) (N ops.size) lg') := by
      cases res with
      | bad => exact hpost.elim
      | nm t' σ => cases e; rfl
      | ex n t' σ => cases e
      | rt t' σ => cases e
    rw [hr] at hpost
    refine wp_region_any hm (any_snd hT hp hc hl z hro hok (lg' := lg') ops.size _ h t M a (drawn1 w) (by simp) ?_ ?_ ⟨?_, ?_⟩ ⟨s.rel.same rfl, s.tm, hro⟩ rfl (hpost.later ⟨M.le_refl, rfl, rfl, drawn1_below w n0.n⟩))
    · intro k o hk
      have hk : (Array.replicate ops.size false).getD k false = true := hk
      rw [hS k] at hk; cases hk
    · have : ∀ n, cntU (fun j => (Array.replicate ops.size false).getD j false) n = n := by
        intro n
        induction n with
        | zero => rfl
        | succ n ih => simp only [cntU, hS n]; rw [ih]; omega
      rw [this]
      exact Nat.le_refl _
    · intro b
      rw [lastIn_none _ fun j _ => by show ((Array.replicate ops.size false).getD j false && _) = false; rw [hS j]; rfl]
      show h.get b = (H 0).get b
      rw [q2]
    · intro d
      rw [lastIn_none _ fun j _ => by show ((Array.replicate ops.size false).getD j false && _) = false; rw [hS j]; rfl]
      show t.get d = (T 0).get d
      rw [q1]
  cases res with
  | bad => exact hpost.elim
  | nm t' σ => cases σ; exact main _ _ _ _ rfl
  | ex n t' σ => cases σ; exact main _ _ _ _ rfl
  | rt t' σ => cases σ; exact main _ _ _ _ rfl
theorem vm_snd (hT : TabOk P cx) (hp : PcOk env cx.pc) (hm : P.follows .mixedOrders = true) (hF : FuOk n0 P chkDraw cx) (n : Nat) : CallOk env n0 P (evCall cx n) :=
  call_snd hT hp hF (ev_snd hT hp hF (fun n hc => draw_snd hT hp hm hc (call_loc (ev_loc cx n) cx)) n)
end
end Go.Vm
