/- VM: the tables of a program. -/
import Derived.Test.YtpbnbgjclalpeaaDoorVmSound
set_option linter.unusedVariables false
set_option linter.unusedSimpArgs false
namespace Go.Vm
theorem ofList_get {α : Type} : ∀ (l : List α) (n : Nat) (t : Tr α) (i : Nat) (a : α), (Tr.ofList l n t).get i = some a → (n ≤ i ∧ l[i - n]? = some a) ∨ t.get i = some a
  | [], n, t, i, a, h => .inr h
  | x :: l, n, t, i, a, h => by
    have h : (Tr.ofList l (n + 1) (t.set n x)).get i = some a := h
    rcases ofList_get l (n + 1) _ i a h with ⟨h1, h2⟩ | h2
    · refine .inl ⟨by omega, ?_⟩
      rw [show i - n = (i - (n + 1)) + 1 by omega]
      exact h2
    · rw [Tr.get_set] at h2
      by_cases e : i = n
      · rw [if_pos e] at h2
        refine .inl ⟨by omega, ?_⟩
        rw [show i - n = 0 by omega]
        exact h2
      · rw [if_neg e] at h2; exact .inr h2
theorem ti_ok {P : Program} {t : TypeId} {i : TypeInfo} (hi : P.info? t = some i) {d : TypeDesc} (hd : P.underlying t = some d) : TyOk P t (tiOf P t i) := by
  refine ⟨⟨i, hi, rfl, rfl, fun z hz => ?_⟩, ⟨d, hd, ?_⟩, ?_, ?_⟩
  · have hz : i.zero.bind (ofValueD 8) = some z := hz
    cases hx : i.zero with
    | none => rw [hx] at hz; cases hz
    | some x => rw [hx] at hz; exact ⟨x, rfl, fun env M => ofValueD_ok 8 x z hz⟩
  · show agOf d = tkAg (tkOf P t)
    unfold tkOf
    rw [hd]
    cases d <;> rfl
  · show KOk P t (tkOf P t)
    unfold tkOf
    rw [hd]
    cases d <;> first
      | exact hd
      | exact ⟨_, _, _, hd⟩
      | exact ⟨_, hd, rfl⟩
      | trivial
  · intro h
    have h : (!P.stoodInHeld t && !P.eqGuardType P.depth t) = true := h
    simpa using h
theorem fuFold_get (ok : Func → Bool) : ∀ (l : List Func) (n : Nat) (t : Tr Fu) (i : Nat) (fu : Fu), (fuFold l n t).get i = some fu → (n ≤ i ∧ ∃ fn, l[i - n]? = some fn ∧ fuOf fn = some fu) ∨ t.get i = some fu
  | [], n, t, i, a, h => .inr h
  | x :: l, n, t, i, a, h => by
    have up : ∀ t', (fuFold l (n + 1) t').get i = some a → (n ≤ i ∧ ∃ fn, (x :: l)[i - n]? = some fn ∧ fuOf fn = some a) ∨ t'.get i = some a := by
      intro t' h'
      rcases fuFold_get ok l (n + 1) t' i a h' with ⟨h1, fn, h2, h3⟩ | h2
      · refine .inl ⟨by omega, fn, ?_, h3⟩
        rw [show i - n = (i - (n + 1)) + 1 by omega]
        exact h2
      · exact .inr h2
    simp only [fuFold] at h
    cases hx : fuOf x with
    | none => rw [hx] at h; exact up t h
    | some y =>
      rw [hx] at h
      rcases up _ h with h1 | h1
      · exact .inl h1
      · rw [Tr.get_set] at h1
        by_cases e : i = n
        · rw [if_pos e] at h1
          refine .inl ⟨by omega, x, ?_, by rw [hx]; exact h1⟩
          rw [show i - n = 0 by omega]; rfl
        · rw [if_neg e] at h1; exact .inr h1
/-- What is asked of a program's types: each has one that underlies it. -/
def allUnd (P : Program) : Bool := (List.range P.types.size).all fun t => (P.underlying t).isSome
theorem tab_ok {P : Program} {cx : Cx} (hcx : cx.ty = tabOf P) (hinfo : ∀ (t : TypeId) (i : TypeInfo), P.types[t]? = some i → P.info? t = some i) (hu : allUnd P = true) : TabOk P cx := by
  intro t ti h
  rw [hcx] at h
  rcases ofList_get _ 0 .nil t ti h with ⟨_, h1⟩ | h1
  · rw [Nat.sub_zero, List.getElem?_mapIdx, Array.getElem?_toList] at h1
    cases hi : P.types[t]? with
    | none => rw [hi] at h1; cases h1
    | some i =>
      rw [hi] at h1
      cases h1
      have hlt : t < P.types.size := by
        rcases Nat.lt_or_ge t P.types.size with h | h
        · exact h
        · rw [Array.getElem?_eq_none h] at hi; cases hi
      have := (List.all_eq_true.1 hu) t (by simpa using hlt)
      obtain ⟨d, hd⟩ := Option.isSome_iff_exists.1 this
      exact ti_ok (hinfo t i hi) hd
  · cases h1
/-- What is asked of a program's functions. -/
noncomputable def allFu (P : Program) : Bool := P.funcs.toList.all fun fn => match fn.body with
  | none => true
  | some c => okCode chkDraw fn.ntmps c && !(fn.name == "runtime.NumGoroutine")
theorem fu_ok {P : Program} {cx : Cx} (hcx : cx.fu = fusOf P) (hu : allFu P = true) : FuOk P chkDraw cx := by
  intro f fu h
  rw [hcx] at h
  rcases fuFold_get (fun _ => true) _ 0 .nil f fu h with ⟨_, fn, h1, h2⟩ | h1
  · rw [Nat.sub_zero, Array.getElem?_toList] at h1
    have hm : fn ∈ P.funcs.toList := List.mem_of_getElem? (by rw [Array.getElem?_toList]; exact h1)
    have hc := (List.all_eq_true.1 hu) fn hm
    unfold fuOf at h2
    cases hb : fn.body with
    | none => rw [hb] at h2; cases h2
    | some c =>
      rw [hb] at h2 hc
      cases h2
      obtain ⟨h3, h4⟩ := and_true hc
      exact .inl ⟨fn, c, h1, hb, by simpa using h4, rfl, h3⟩
  · cases h1
theorem fu_sum {P : Program} {cx cx' : Cx} {chk : List Oper → Bool} (hF : FuOk P chk cx) {f : FuncId} {b : Bool} (hs : SumOk P f b) (hcx : cx'.fu = cx.fu.set f (.const b)) : FuOk P chk cx' := by
  intro g fu h
  rw [hcx, Tr.get_set] at h
  by_cases e : g = f
  · rw [if_pos e] at h
    cases h
    subst e
    exact .inr ⟨b, rfl, hs⟩
  · rw [if_neg e] at h
    exact hF g fu h
end Go.Vm
