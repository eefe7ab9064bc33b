/- VM: what a run reads and writes is all that it hangs on. -/
import Derived.Test.YtpbnbgjclalpeaaDoorVmCode
set_option linter.unusedVariables false
set_option linter.unusedSimpArgs false
namespace Go.Vm

/-! ### logs -/
noncomputable def Lg.cat (l : Lg) (rd wr : Nat) : Lg := Lg.rec .off (fun r w => .on (rd ||| r) (wr ||| w)) l
theorem Lg.cat_eq (l : Lg) (rd wr : Nat) : l.cat rd wr = match l with | .off => .off | .on r w => .on (rd ||| r) (wr ||| w) := by cases l <;> rfl
theorem Lg.cat_nil (l : Lg) : l.cat 0 0 = l := by rw [Lg.cat_eq]; cases l <;> simp
theorem Lg.cat_cat (l : Lg) (a b c d : Nat) : (l.cat a b).cat c d = l.cat (c ||| a) (d ||| b) := by
  rw [Lg.cat_eq l, Lg.cat_eq l, Lg.cat_eq]
  cases l <;> simp [Nat.or_assoc]
theorem Lg.rd_eq (l : Lg) (b : Nat) : l.rd b = l.cat (2 ^ b) 0 := by
  rw [Lg.cat_eq]
  cases l with
  | off => rfl
  | on r w => show Lg.on (2 ^ b ||| r) w = _; simp
theorem Lg.wr_eq (l : Lg) (b : Nat) : l.wr b = l.cat 0 (2 ^ b) := by
  rw [Lg.cat_eq]
  cases l with
  | off => rfl
  | on r w => show Lg.on r (2 ^ b ||| w) = _; simp
theorem has_or (a b c : Nat) : (a ||| b).testBit c = true ↔ a.testBit c = true ∨ b.testBit c = true := by rw [Nat.testBit_or, Bool.or_eq_true]
theorem has_one (b c : Nat) : (2 ^ b).testBit c = true ↔ c = b := by
  rw [Nat.testBit_two_pow]
  simp
  exact eq_comm
theorem has_zero (c : Nat) : ¬ ((0 : Nat).testBit c = true) := by simp

/-! ### what a run hangs on -/
def Foot (wr nx nx' b : Nat) : Prop := wr.testBit b = true ∨ (nx ≤ b ∧ b < nx')
instance (wr nx nx' b : Nat) : Decidable (Foot wr nx nx' b) := by unfold Foot; infer_instance
def LocAt {α : Type} (F : RunT α) (h : Tr Ob) (nx : Nat) (a : α) (h' : Tr Ob) (nx' : Nat) (rd wr : Nat) : Prop :=
  nx ≤ nx' ∧ (∀ b, ¬ Foot wr nx nx' b → h'.get b = h.get b) ∧
  ∀ g : Tr Ob, (∀ b, rd.testBit b = true ∨ Foot wr nx nx' b → g.get b = h.get b) → ∃ g', (∀ lg, F g nx lg = .ok a (.mk g' nx' (lg.cat rd wr))) ∧ ∀ b, g'.get b = if Foot wr nx nx' b then h'.get b else g.get b
def Loc {α : Type} (F : RunT α) : Prop := ∀ h nx lg a h' nx' lg', F h nx lg = .ok a (.mk h' nx' lg') → ∃ rd wr, lg' = lg.cat rd wr ∧ LocAt F h nx a h' nx' rd wr
noncomputable def bindR {α β : Type} (F : RunT α) (G : α → RunT β) : RunT β := fun h nx lg => Rs.rec .bad (fun a σ => St.rec (fun h nx lg => G a h nx lg) σ) (F h nx lg)
theorem Loc.ret {α : Type} (a : α) : Loc (fun h nx lg => .ok a (.mk h nx lg)) := by
  intro h nx lg a' h' nx' lg' e
  cases e
  refine ⟨0, 0, (Lg.cat_nil _).symm, Nat.le_refl _, fun _ _ => rfl, fun g _ => ⟨g, fun lg => by rw [Lg.cat_nil], fun b => ?_⟩⟩
  rw [if_neg]
  rintro (h1 | ⟨h1, h2⟩)
  · exact absurd h1 (has_zero _)
  · omega
theorem Loc.bad {α : Type} : Loc (fun _ _ _ => (.bad : Rs α)) := by
  intro h nx lg a' h' nx' lg' e
  cases e
theorem Loc.bind {α β : Type} {F : RunT α} {G : α → RunT β} (hF : Loc F) (hG : ∀ a, Loc (G a)) : Loc (bindR F G) := by
  intro h nx lg b h2 nx2 lg2 e
  unfold bindR at e
  cases hf : F h nx lg with
  | bad => rw [hf] at e; cases e
  | ok a σ =>
    rw [hf] at e
    cases σ with
    | mk h1 nx1 lg1 =>
      have e : G a h1 nx1 lg1 = .ok b (.mk h2 nx2 lg2) := e
      obtain ⟨rd1, wr1, l1, n1, f1, k1⟩ := hF _ _ _ _ _ _ _ hf
      obtain ⟨rd2, wr2, l2, n2, f2, k2⟩ := hG a _ _ _ _ _ _ _ e
      refine ⟨rd2 ||| rd1, wr2 ||| wr1, by rw [l2, l1, Lg.cat_cat], by omega, ?_, ?_⟩
      · intro c hc
        rw [f2 c (fun x => hc ?_), f1 c (fun x => hc ?_)]
        · rcases x with x | x
          · exact .inl ((has_or _ _ _).2 (.inr x))
          · exact .inr ⟨x.1, by omega⟩
        · rcases x with x | x
          · exact .inl ((has_or _ _ _).2 (.inl x))
          · exact .inr ⟨by omega, x.2⟩
      · intro g hg
        obtain ⟨g1, e1, q1⟩ := k1 g (by
          intro c hc
          refine hg c ?_
          rcases hc with hc | hc | hc
          · exact .inl ((has_or _ _ _).2 (.inr hc))
          · exact .inr (.inl ((has_or _ _ _).2 (.inr hc)))
          · exact .inr (.inr ⟨hc.1, by omega⟩))
        obtain ⟨g2, e2, q2⟩ := k2 g1 (by
          intro c hc
          rw [q1 c]
          by_cases hx : Foot wr1 nx nx1 c
          · rw [if_pos hx]
          · rw [if_neg hx, f1 c hx]
            refine hg c ?_
            rcases hc with hc | hc | hc
            · exact .inl ((has_or _ _ _).2 (.inl hc))
            · exact .inr (.inl ((has_or _ _ _).2 (.inl hc)))
            · exact .inr (.inr ⟨by omega, hc.2⟩))
        refine ⟨g2, ?_, ?_⟩
        · intro lg
          unfold bindR
          rw [e1 lg]
          show G a g1 nx1 (lg.cat rd1 wr1) = _
          rw [e2, Lg.cat_cat]
        · intro c
          rw [q2 c, q1 c]
          by_cases h2' : Foot wr2 nx1 nx2 c
          · rw [if_pos h2', if_pos]
            rcases h2' with x | x
            · exact .inl ((has_or _ _ _).2 (.inl x))
            · exact .inr ⟨by omega, x.2⟩
          · rw [if_neg h2', ← f2 c h2']
            by_cases h1' : Foot wr1 nx nx1 c
            · rw [if_pos h1', if_pos]
              rcases h1' with x | x
              · exact .inl ((has_or _ _ _).2 (.inr x))
              · exact .inr ⟨x.1, by omega⟩
            · rw [if_neg h1', if_neg]
              rintro (x | x)
              · rcases (has_or _ _ _).1 x with x | x
                · exact h2' (.inl x)
                · exact h1' (.inl x)
              · rcases Nat.lt_or_ge c nx1 with y | y
                · exact h1' (.inr ⟨x.1, y⟩)
                · exact h2' (.inr ⟨y, x.2⟩)

/-! ### single steps -/
noncomputable def readF {α : Type} (b : Nat) (f : Option Ob → Option α) : RunT α := fun h nx lg => match f (h.get b) with | none => .bad | some a => .ok a (.mk h nx (lg.rd b))
noncomputable def writeF (b : Nat) (f : Option Ob → Option Ob) : RunT Unit := fun h nx lg => match f (h.get b) with | none => .bad | some o => .ok () (.mk (h.set b o) nx (lg.wr b))
noncomputable def newF (o : Ob) : RunT Nat := fun h nx lg => match h.get nx with | none => .ok nx (.mk (h.set nx o) (nx + 1) lg) | some _ => .bad
theorem Loc.read {α : Type} (b : Nat) (f : Option Ob → Option α) : Loc (readF b f) := by
  intro h nx lg a h' nx' lg' e
  have e : (match f (h.get b) with | none => .bad | some a => .ok a (.mk h nx (lg.rd b)) : Rs α) = .ok a (.mk h' nx' lg') := e
  cases hf : f (h.get b) with
  | none => rw [hf] at e; cases e
  | some x =>
    rw [hf] at e
    cases e
    refine ⟨2 ^ b, 0, Lg.rd_eq _ _, Nat.le_refl _, fun _ _ => rfl, fun g hg => ⟨g, fun lg => ?_, fun c => ?_⟩⟩
    · show (match f (g.get b) with | none => .bad | some a => .ok a (.mk g nx (lg.rd b)) : Rs α) = _
      rw [hg b (.inl ((has_one b b).2 rfl)), hf, Lg.rd_eq]
    · rw [if_neg]
      rintro (h1 | ⟨h1, h2⟩)
      · exact absurd h1 (has_zero _)
      · omega
theorem Loc.write (b : Nat) (f : Option Ob → Option Ob) : Loc (writeF b f) := by
  intro h nx lg a h' nx' lg' e
  have e : (match f (h.get b) with | none => .bad | some o => .ok () (.mk (h.set b o) nx (lg.wr b)) : Rs Unit) = .ok a (.mk h' nx' lg') := e
  cases hf : f (h.get b) with
  | none => rw [hf] at e; cases e
  | some o =>
    rw [hf] at e
    cases e
    have hft : ∀ c, Foot (2 ^ b) nx nx c ↔ c = b := by
      intro c
      constructor
      · rintro (h1 | ⟨h1, h2⟩)
        · exact (has_one b c).1 h1
        · omega
      · intro e; exact .inl ((has_one b c).2 e)
    refine ⟨0, 2 ^ b, Lg.wr_eq _ _, Nat.le_refl _, ?_, fun g hg => ⟨g.set b o, fun lg => ?_, fun c => ?_⟩⟩
    · intro c hc
      rw [Tr.get_set, if_neg (fun e => hc ((hft c).2 e))]
    · show (match f (g.get b) with | none => .bad | some o => .ok () (.mk (g.set b o) nx (lg.wr b)) : Rs Unit) = _
      rw [hg b (.inr ((hft b).2 rfl)), hf, Lg.wr_eq]
    · rw [Tr.get_set]
      by_cases hc : c = b
      · subst hc; rw [if_pos rfl, if_pos ((hft c).2 rfl), Tr.get_set, if_pos rfl]
      · rw [if_neg hc, if_neg (fun e => hc ((hft c).1 e))]
theorem Loc.new (o : Ob) : Loc (newF o) := by
  intro h nx lg a h' nx' lg' e
  have e : (match h.get nx with | none => .ok nx (.mk (h.set nx o) (nx + 1) lg) | some _ => .bad : Rs Nat) = .ok a (.mk h' nx' lg') := e
  cases hf : h.get nx with
  | some o => rw [hf] at e; cases e
  | none =>
    rw [hf] at e
    cases e
    have hft : ∀ c, Foot 0 nx (nx + 1) c ↔ c = nx := by
      intro c
      constructor
      · rintro (h1 | ⟨h1, h2⟩)
        · exact absurd h1 (has_zero _)
        · omega
      · intro e; exact .inr ⟨by omega, by omega⟩
    refine ⟨0, 0, (Lg.cat_nil _).symm, by omega, ?_, fun g hg => ⟨g.set nx o, fun lg => ?_, fun c => ?_⟩⟩
    · intro c hc
      rw [Tr.get_set, if_neg (fun e => hc ((hft c).2 e))]
    · show (match g.get nx with | none => .ok nx (.mk (g.set nx o) (nx + 1) lg) | some _ => .bad : Rs Nat) = _
      rw [hg nx (.inr ((hft nx).2 rfl)), hf, Lg.cat_nil]
    · rw [Tr.get_set]
      by_cases hc : c = nx
      · subst hc; rw [if_pos rfl, if_pos ((hft c).2 rfl), Tr.get_set, if_pos rfl]
      · rw [if_neg hc, if_neg (fun e => hc ((hft c).1 e))]
theorem Loc.congr {α : Type} {F G : RunT α} (h : ∀ a b c, F a b c = G a b c) (hG : Loc G) : Loc F := by
  have : F = G := by funext a b c; exact h a b c
  rw [this]; exact hG
/-! ### trees -/
def optR {α β : Type} (x : Option α) (G : α → Rs β) : Rs β := match x with
  | none => .bad
  | some a => G a
theorem readF_bind {α β : Type} (b : Nat) (f : Option Ob → Option α) (G : α → RunT β) (h : Tr Ob) (nx : Nat) (lg : Lg) : bindR (readF b f) G h nx lg = optR (f (h.get b)) fun a => G a h nx (lg.rd b) := by
  unfold bindR readF
  cases f (h.get b) <;> rfl
theorem writeF_bind {β : Type} (b : Nat) (f : Option Ob → Option Ob) (G : Unit → RunT β) (h : Tr Ob) (nx : Nat) (lg : Lg) : bindR (writeF b f) G h nx lg = optR (f (h.get b)) fun o => G () (h.set b o) nx (lg.wr b) := by
  unfold bindR writeF
  cases f (h.get b) <;> rfl
theorem newF_bind {β : Type} (o : Ob) (G : Nat → RunT β) (h : Tr Ob) (nx : Nat) (lg : Lg) : bindR (newF o) G h nx lg = match h.get nx with | none => G nx (h.set nx o) (nx + 1) lg | some _ => .bad := by
  unfold bindR newF
  cases h.get nx <;> rfl
/-- A row that lives: what is made of it. -/
def rowO {α : Type} (k : TypeId → Nat → Bool → RL V → Option α) : Option Ob → Option α
  | some (.cells el es ex true cs) => k el es ex cs
  | _ => none
def mapO {α : Type} (k : List (V × V) → Option α) : Option Ob → Option α
  | some (.map es) => k es
  | _ => none
theorem row_read {α β : Type} (x : Option Ob) (f : TypeId → Nat → Bool → RL V → Rs β) (k : TypeId → Nat → Bool → RL V → Option α) (G : α → Rs β) (hk : ∀ el es ex cs, f el es ex cs = optR (k el es ex cs) G) :
    asRow .bad f x = optR (rowO k x) G := by
  cases x with
  | none => rfl
  | some ob => cases ob with
    | map es => rfl
    | cells el es ex live cs => cases live with
      | false => rfl
      | true => exact hk el es ex cs
theorem map_read {α β : Type} (x : Option Ob) (f : List (V × V) → Rs β) (k : List (V × V) → Option α) (G : α → Rs β) (hk : ∀ es, f es = optR (k es) G) :
    asMap .bad f x = optR (mapO k x) G := by
  cases x with
  | none => rfl
  | some ob => cases ob with
    | map es => exact hk es
    | cells el es ex live cs => rfl
noncomputable def b1 {α : Type} (c : Bool) (x : Rs α) : Rs α := Bool.rec .bad x c
noncomputable def b3 {α : Type} (c1 c2 c3 : Bool) (x : Rs α) : Rs α := Bool.rec .bad (Bool.rec .bad (Bool.rec .bad x c3) c2) c1
theorem b1_eq {α β : Type} (c : Bool) (x : Rs α) (o : β) (G : β → Rs α) (h : x = G o) : b1 c x = optR (if c = true then some o else none) G := by
  cases c
  · rfl
  · exact h
theorem b3_eq {α β : Type} (c1 c2 c3 : Bool) (x : Rs α) (o : β) (G : β → Rs α) (h : x = G o) : b3 c1 c2 c3 x = optR (if c1 = true ∧ c2 = true ∧ c3 = true then some o else none) G := by
  cases c1 <;> cases c2 <;> cases c3 <;> first
    | rfl
    | exact h
theorem pr_loc {α : Type} (p : Pr α) : Loc p.run := by
  induction p with
  | ret a => exact Loc.ret a
  | bad n => exact Loc.bad
  | cell b o k ih =>
    refine Loc.congr (fun h nx lg => ?_) (Loc.bind (Loc.read b (rowO fun _ _ _ cs => cs.get o)) ih)
    rw [readF_bind]
    refine row_read (h.get b) _ _ (fun v => (k v).run h nx (lg.rd b)) fun el es ex cs => ?_
    cases cs.get o with
    | none => rfl
    | some v => exact rdK_eq lg b _
  | setc b o v k ih =>
    refine Loc.congr (fun h nx lg => ?_) (Loc.bind (Loc.write b (rowO fun el es ex cs => if Nat.ble RO b = true ∧ oneC v = true ∧ Nat.ble (Nat.succ o) cs.len = true then some (.cells el es ex true (cs.set o v)) else none)) fun _ => ih)
    rw [writeF_bind]
    exact row_read (h.get b) (fun el es ex cs => b3 (Nat.ble RO b) (oneC v) (Nat.ble (Nat.succ o) cs.len) (lg.wrK b (k.run (h.set b (.cells el es ex true (cs.set o v))) nx))) _ (fun ob => k.run (h.set b ob) nx (lg.wr b)) fun el es ex cs => b3_eq _ _ _ _ _ (fun ob => k.run (h.set b ob) nx (lg.wr b)) (wrK_eq lg b _)
  | rows b lo n k ih =>
    refine Loc.congr (fun h nx lg => ?_) (Loc.bind (Loc.read b (rowO fun _ _ _ cs => if Nat.ble (Nat.add lo n) cs.len = true then some ((cs.drop lo).take n) else none)) ih)
    rw [readF_bind]
    refine row_read (h.get b) _ _ (fun v => (k v).run h nx (lg.rd b)) fun el es ex cs => ?_
    show (Bool.rec .bad (lg.rdK b ((k ((cs.drop lo).take n)).run h nx)) (Nat.ble (Nat.add lo n) cs.len) : Rs _) = _
    rw [rdK_eq]
    cases Nat.ble (Nat.add lo n) cs.len <;> rfl
  | sets b lo nw k ih =>
    refine Loc.congr (fun h nx lg => ?_) (Loc.bind (Loc.write b (rowO fun el es ex cs => if Nat.ble RO b = true ∧ allOne nw = true ∧ Nat.ble (Nat.add lo nw.len) cs.len = true then some (.cells el es ex true (setRL nw cs lo)) else none)) fun _ => ih)
    rw [writeF_bind]
    exact row_read (h.get b) (fun el es ex cs => b3 (Nat.ble RO b) (allOne nw) (Nat.ble (Nat.add lo nw.len) cs.len) (lg.wrK b (k.run (h.set b (.cells el es ex true (setRL nw cs lo))) nx))) _ (fun ob => k.run (h.set b ob) nx (lg.wr b)) fun el es ex cs => b3_eq _ _ _ _ _ (fun ob => k.run (h.set b ob) nx (lg.wr b)) (wrK_eq lg b _)
  | info b k ih =>
    refine Loc.congr (fun h nx lg => ?_) (Loc.bind (α := Nat × Nat × Bool) (G := fun x => (k x.1 x.2.1 x.2.2).run) (Loc.read b (rowO fun _ es ex cs => some (es, cs.len, ex))) (fun (x : Nat × Nat × Bool) => ih x.1 x.2.1 x.2.2))
    rw [readF_bind]
    exact row_read (h.get b) _ _ (fun (x : Nat × Nat × Bool) => (k x.1 x.2.1 x.2.2).run h nx (lg.rd b)) fun el es ex cs => rdK_eq lg b _
  | new o k ih =>
    refine Loc.congr (fun h nx lg => ?_) (Loc.bind (Loc.new o) ih)
    rw [newF_bind]
    show (Option.rec ((k nx).run (h.set nx o) (Nat.succ nx) lg) (fun _ => .bad) (h.get nx) : Rs α) = _
    cases h.get nx <;> rfl
  | kill b k ih =>
    refine Loc.congr (fun h nx lg => ?_) (Loc.bind (Loc.write b (rowO fun el es ex cs => if Nat.ble RO b = true then some (.cells el es ex false cs) else none)) fun _ => ih)
    rw [writeF_bind]
    exact row_read (h.get b) (fun el es ex cs => b1 (Nat.ble RO b) (lg.wrK b (k.run (h.set b (.cells el es ex false cs)) nx))) _ (fun ob => k.run (h.set b ob) nx (lg.wr b)) fun el es ex cs => b1_eq _ _ _ (fun ob => k.run (h.set b ob) nx (lg.wr b)) (wrK_eq lg b _)
  | getM r k ih =>
    refine Loc.congr (fun h nx lg => ?_) (Loc.bind (Loc.read r (mapO fun es => some es)) ih)
    rw [readF_bind]
    refine map_read (h.get r) _ _ (fun v => (k v).run h nx (lg.rd r)) fun es => ?_
    exact rdK_eq lg r _
  | setM r es k ih =>
    refine Loc.congr (fun h nx lg => ?_) (Loc.bind (Loc.write r (mapO fun _ => if Nat.ble RO r = true then some (.map es) else none)) fun _ => ih)
    rw [writeF_bind]
    exact map_read (h.get r) (fun _ => b1 (Nat.ble RO r) (lg.wrK r (k.run (h.set r (.map es)) nx))) _ (fun ob => k.run (h.set r ob) nx (lg.wr r)) fun es0 => b1_eq _ _ _ (fun ob => k.run (h.set r ob) nx (lg.wr r)) (wrK_eq lg r _)
end Go.Vm
