/- VM: an evaluator of the model's code, and that what it answers the model answers (OpA OpB OpC OpD OpE OpF OpG OpH OpI OpJ). -/
import Derived.Test.YtfjnhdbbjggkmaaVmBase
import GoSem.Dispatch
import Derived.Laws.Sem
import Derived.Laws.BytesString
import Derived.Laws.StructEq
set_option linter.unusedVariables false
set_option linter.unusedSimpArgs false
namespace Go.Vm
open Go.RowKit

/-! ### the table of types -/
def agOf : TypeDesc → Bool
  | .struct _ => true
  | .array _ _ => true
  | _ => false
def KOk (P : Program) (t : TypeId) : TK → Prop
  | .int k => P.underlying t = some (.int k)
  | .bool => P.underlying t = some .bool
  | .string => P.underlying t = some .string
  | .pointer e => P.underlying t = some (.pointer e)
  | .slice e => P.underlying t = some (.slice e)
  | .map k e => P.underlying t = some (.map k e)
  | .func => ∃ a b c, P.underlying t = some (.func a b c)
  | .iface e => ∃ ms, P.underlying t = some (.interface ms) ∧ ms.isEmpty = e
  | .struct fs => ∃ fields : Array Field, P.underlying t = some (.struct fields) ∧ fs = fields.toList.map fun f => (f.type, f.offset, f.name == "_")
  | .array n e => P.underlying t = some (.array n e)
  | .other => True
structure TyOk (P : Program) (t : TypeId) (ti : TI) : Prop where
  info : ∃ i, P.info? t = some i ∧ i.size = ti.size ∧ i.bytes = ti.bytes ∧ ∀ z, ti.zero = some z → ∃ x, i.zero = some x ∧ ∀ env M, VR env M z x
  und : ∃ d, P.underlying t = some d ∧ agOf d = ti.ag
  k : KOk P t ti.k
  eq : ti.eq = true → P.stoodInHeld t = false ∧ P.eqGuardType P.depth t = false
def TabOk (P : Program) (cx : Cx) : Prop := ∀ t ti, cx.ty.get t = some ti → TyOk P t ti

section runs
variable {P : Program} {w : World} {t : TypeId} {ti : TI}
theorem run_und {d : TypeDesc} (h : P.underlying t = some d) : (underlying t).run P w = .ok d w := by simp [underlying, h]
theorem TyOk.run_size (h : TyOk P t ti) : (sizeOf t).run P w = .ok ti.size w := by
  obtain ⟨i, h1, h2, _⟩ := h.info
  simp [sizeOf, typeInfo, h1, h2]
theorem TyOk.run_info (h : TyOk P t ti) : ∃ i, (typeInfo t).run P w = .ok i w ∧ i.size = ti.size ∧ i.bytes = ti.bytes := by
  obtain ⟨i, h1, h2, h3, _⟩ := h.info
  exact ⟨i, by simp [typeInfo, h1], h2, h3⟩
theorem TyOk.run_zero (h : TyOk P t ti) {z : V} (hz : ti.zero = some z) : ∃ x, (zeroValue t).run P w = .ok x w ∧ ∀ env M, VR env M z x := by
  obtain ⟨i, h1, _, _, h4⟩ := h.info
  obtain ⟨x, h5, h6⟩ := h4 z hz
  exact ⟨x, by simp [zeroValue, typeInfo, h1, h5], h6⟩
theorem TyOk.run_isAgg (h : TyOk P t ti) : (isAgg t).run P w = .ok ti.ag w := by
  obtain ⟨d, h1, h2⟩ := h.und
  unfold isAgg
  rw [Sem.run_bind, run_und h1, Result.andThen_ok, ← h2]
  cases d <;> rfl
end runs

/-! ### trees -/
section pr
variable {α : Type} {h : Tr Ob} {nx : Nat} {lg : Lg} {a : α} {σ : St}
theorem asRow_ok {o : Option Ob} {k : TypeId → Nat → Bool → RL V → Rs α} (e : asRow .bad k o = .ok a σ) : ∃ el es ex cs, o = some (.cells el es ex true cs) ∧ k el es ex cs = .ok a σ := by
  cases o with
  | none => cases e
  | some o =>
    cases o with
    | cells el es ex live cs => cases live with
      | false => cases e
      | true => exact ⟨el, es, ex, cs, rfl, e⟩
    | map es => cases e
theorem asMap_ok {o : Option Ob} {k : List (V × V) → Rs α} (e : asMap .bad k o = .ok a σ) : ∃ es, o = some (.map es) ∧ k es = .ok a σ := by
  cases o with
  | none => cases e
  | some o => cases o with
    | cells el es ex live cs => cases e
    | map es => exact ⟨es, rfl, e⟩
theorem bool_ok {c : Bool} {x : Rs α} (e : (Bool.rec .bad x c : Rs α) = .ok a σ) : c = true ∧ x = .ok a σ := by cases c with
  | false => cases e
  | true => exact ⟨rfl, e⟩
theorem forceN_eq {β : Type} (n : Nat) (k : Nat → β) : forceN n k = k n := by cases n <;> rfl
theorem rdK_eq {β : Type} (l : Lg) (b : Nat) (k : Lg → β) : l.rdK b k = k (l.rd b) := by
  cases l with
  | off => rfl
  | on r w => exact forceN_eq (addB r b) fun r => k (.on r w)
theorem wrK_eq {β : Type} (l : Lg) (b : Nat) (k : Lg → β) : l.wrK b k = k (l.wr b) := by
  cases l with
  | off => rfl
  | on r w => exact forceN_eq (addB w b) fun w => k (.on r w)
theorem run_ret {v : α} (e : (Pr.ret v).run h nx lg = .ok a σ) : v = a ∧ σ = .mk h nx lg := by cases e; exact ⟨rfl, rfl⟩
theorem run_bad {n : Nat} (e : (Pr.bad n : Pr α).run h nx lg = .ok a σ) : False := by cases e
theorem run_cell {b o : Nat} {k : V → Pr α} (e : (Pr.cell b o k).run h nx lg = .ok a σ) :
    ∃ el es ex cs v, h.get b = some (.cells el es ex true cs) ∧ cs.toList[o]? = some v ∧ (k v).run h nx (lg.rd b) = .ok a σ := by
  obtain ⟨el, es, ex, cs, h1, h2⟩ := asRow_ok e
  cases hg : cs.get o with
  | none => rw [hg] at h2; cases h2
  | some v => rw [hg] at h2; replace h2 := (rdK_eq lg b _).symm.trans h2; exact ⟨el, es, ex, cs, v, h1, by rw [← RL.get_eq]; exact hg, h2⟩
theorem run_setc {b o : Nat} {v : V} {k : Pr α} (e : (Pr.setc b o v k).run h nx lg = .ok a σ) :
    ∃ el es ex cs, h.get b = some (.cells el es ex true cs) ∧ RO ≤ b ∧ oneC v = true ∧ o < cs.toList.length ∧ k.run (h.set b (.cells el es ex true (cs.set o v))) nx (lg.wr b) = .ok a σ := by
  obtain ⟨el, es, ex, cs, h1, h2⟩ := asRow_ok e
  obtain ⟨h3, h4⟩ := bool_ok h2
  obtain ⟨h5, h6⟩ := bool_ok h4
  obtain ⟨h7, h8⟩ := bool_ok h6
  rw [RL.len_eq] at h7
  exact ⟨el, es, ex, cs, h1, Nat.le_of_ble_eq_true h3, h5, Nat.le_of_ble_eq_true h7, (wrK_eq lg b _).symm.trans h8⟩
theorem run_rows {b lo n : Nat} {k : RL V → Pr α} (e : (Pr.rows b lo n k).run h nx lg = .ok a σ) :
    ∃ el es ex cs, h.get b = some (.cells el es ex true cs) ∧ lo + n ≤ cs.toList.length ∧ (k ((cs.drop lo).take n)).run h nx (lg.rd b) = .ok a σ := by
  obtain ⟨el, es, ex, cs, h1, h2⟩ := asRow_ok e
  obtain ⟨h3, h4⟩ := bool_ok h2
  rw [RL.len_eq] at h3
  exact ⟨el, es, ex, cs, h1, Nat.le_of_ble_eq_true h3, (rdK_eq lg b _).symm.trans h4⟩
theorem allOne_eq (r : RL V) (e : allOne r = true) : ∀ v ∈ r.toList, oneC v = true := by
  induction r with
  | nil => intro v hv; cases hv
  | cons x r ih =>
    intro v hv
    have h2 : (Bool.rec false (allOne r) (oneC x.1) : Bool) = true := e
    rw [RL.toList_cons, List.mem_append] at hv
    cases ho : oneC x.1 with
    | false => rw [ho] at h2; cases h2
    | true =>
      rw [ho] at h2
      rcases hv with hv | hv
      · rw [(List.mem_replicate.1 hv).2]; exact ho
      · exact ih h2 v hv
theorem run_sets {b lo : Nat} {nw : RL V} {k : Pr α} (e : (Pr.sets b lo nw k).run h nx lg = .ok a σ) :
    ∃ el es ex cs, h.get b = some (.cells el es ex true cs) ∧ RO ≤ b ∧ (∀ v ∈ nw.toList, oneC v = true) ∧ lo + nw.toList.length ≤ cs.toList.length ∧
      k.run (h.set b (.cells el es ex true (setRL nw cs lo))) nx (lg.wr b) = .ok a σ := by
  obtain ⟨el, es, ex, cs, h1, h2⟩ := asRow_ok e
  obtain ⟨h3, h4⟩ := bool_ok h2
  obtain ⟨h5, h6⟩ := bool_ok h4
  obtain ⟨h7, h8⟩ := bool_ok h6
  rw [RL.len_eq, RL.len_eq] at h7
  exact ⟨el, es, ex, cs, h1, Nat.le_of_ble_eq_true h3, allOne_eq _ h5, Nat.le_of_ble_eq_true h7, (wrK_eq lg b _).symm.trans h8⟩
theorem run_info' {b : Nat} {k : Nat → Nat → Bool → Pr α} (e : (Pr.info b k).run h nx lg = .ok a σ) :
    ∃ el es ex cs, h.get b = some (.cells el es ex true cs) ∧ (k es cs.toList.length ex).run h nx (lg.rd b) = .ok a σ := by
  obtain ⟨el, es, ex, cs, h1, h2⟩ := asRow_ok e
  replace h2 := (rdK_eq lg b _).symm.trans h2
  rw [RL.len_eq] at h2
  exact ⟨el, es, ex, cs, h1, h2⟩
theorem run_new {o : Ob} {k : Nat → Pr α} (e : (Pr.new o k).run h nx lg = .ok a σ) : h.get nx = none ∧ (k nx).run (h.set nx o) (nx + 1) lg = .ok a σ := by
  have e' : (Option.rec ((k nx).run (h.set nx o) (Nat.succ nx) lg) (fun _ => .bad) (h.get nx) : Rs α) = .ok a σ := e
  cases hg : h.get nx with
  | none => rw [hg] at e'; exact ⟨rfl, e'⟩
  | some o => rw [hg] at e'; cases e'
theorem run_kill {b : Nat} {k : Pr α} (e : (Pr.kill b k).run h nx lg = .ok a σ) :
    ∃ el es ex cs, h.get b = some (.cells el es ex true cs) ∧ RO ≤ b ∧ k.run (h.set b (.cells el es ex false cs)) nx (lg.wr b) = .ok a σ := by
  obtain ⟨el, es, ex, cs, h1, h2⟩ := asRow_ok e
  obtain ⟨h3, h4⟩ := bool_ok h2
  exact ⟨el, es, ex, cs, h1, Nat.le_of_ble_eq_true h3, (wrK_eq lg b _).symm.trans h4⟩
theorem run_getM {r : Nat} {k : List (V × V) → Pr α} (e : (Pr.getM r k).run h nx lg = .ok a σ) : ∃ es, h.get r = some (.map es) ∧ (k es).run h nx (lg.rd r) = .ok a σ := by
  obtain ⟨es, h1, h2⟩ := asMap_ok e
  exact ⟨es, h1, (rdK_eq lg r _).symm.trans h2⟩
theorem run_setM {r : Nat} {es : List (V × V)} {k : Pr α} (e : (Pr.setM r es k).run h nx lg = .ok a σ) :
    ∃ es0, h.get r = some (.map es0) ∧ RO ≤ r ∧ k.run (h.set r (.map es)) nx (lg.wr r) = .ok a σ := by
  obtain ⟨es0, h1, h2⟩ := asMap_ok e
  obtain ⟨h3, h4⟩ := bool_ok h2
  exact ⟨es0, h1, Nat.le_of_ble_eq_true h3, (wrK_eq lg r _).symm.trans h4⟩
end pr

/-- What a tree does, the model's piece does. -/
def Snd (env : Nat → Int) (n0 : Old) (P : Program) (M : Mp) (h : Tr Ob) (w : World) {α β : Type} (R : Mp → α → β → Prop) (p : Pr α) (s : Sem β) : Prop :=
  ∀ nx lg a h' nx' lg', RO ≤ nx → p.run h nx lg = .ok a (.mk h' nx' lg') →
    ∃ M' w' x, s.run P w = .ok x w' ∧ M.le M' ∧ Rel env n0 M' h' w' ∧ R M' a x ∧ Below n0.n w w' ∧ RO ≤ nx'

section ops
variable {env : Nat → Int} {n0 : Old} {P : Program} {M : Mp} {h : Tr Ob} {w : World} {cx : Cx}
abbrev SndV (env : Nat → Int) (n0 : Old) (P : Program) (M : Mp) (h : Tr Ob) (w : World) (p : Pr V) (s : Sem Value) : Prop := Snd env n0 P M h w (VR env) p s
abbrev SndU (env : Nat → Int) (n0 : Old) (P : Program) (M : Mp) (h : Tr Ob) (w : World) (p : Pr Unit) (s : Sem Unit) : Prop := Snd env n0 P M h w (fun _ _ _ => True) p s
theorem Snd.bad {n : Nat} {s : Sem Value} : SndV env n0 P M h w (.bad n) s := fun _ _ _ _ _ _ _ e => (run_bad e).elim
theorem Snd.badU {n : Nat} {s : Sem Unit} : SndU env n0 P M h w (.bad n) s := fun _ _ _ _ _ _ _ e => (run_bad e).elim
theorem Snd.ret (r : Rel env n0 M h w) {v : V} {x : Value} {s : Sem Value} (hs : s.run P w = .ok x w) (hv : VR env M v x) : SndV env n0 P M h w (.ret v) s := by
  intro nx lg a h' nx' lg' hn e
  obtain ⟨rfl, e2⟩ := run_ret e
  cases e2
  exact ⟨M, w, x, hs, M.le_refl, r, hv, Below.refl _ _, hn⟩

/-- A load. -/
theorem load_snd (hT : TabOk P cx) (r : Rel env n0 M h w) {a : V} {a' : Value} (ha : VR env M a a') (t : TypeId) :
    SndV env n0 P M h w (vload a cx t) (Instr.loadAt t a') := by
  cases ha with
  | p b o pl hM =>
    show SndV env n0 P M h w (vload2 (cx.ty.get t) b o) _
    cases ht : cx.ty.get t with
    | none => exact Snd.bad
    | some ti =>
      have ok := hT t ti ht
      show SndV env n0 P M h w (match ti.ag with | true => Pr.rows b o ti.size fun cs => .ret (.agg cs.toList) | false => .cell b o .ret) _
      cases hag : ti.ag with
      | true =>
        intro nx lg a h' nx' lg' hn e
        obtain ⟨el, es, ex, cs, h1, h2, h3⟩ := run_rows e
        obtain ⟨e4, e5⟩ := run_ret h3
        cases e5; subst e4
        obtain ⟨pl', c, el', fz, m1, m2, m3, m4, m5⟩ := r.live h1
        rw [hM] at m1; cases m1
        obtain ⟨xs, x1, x2, x3, _⟩ := m3.loads (P := P) o ti.size h2
        refine ⟨M, w, .agg xs.toArray, ?_, M.le_refl, r, .agg _ _ (by rw [RL.toList_take, RL.toList_drop]; simpa using x2), Below.refl _ _, hn⟩
        have ha := ok.run_isAgg (w := w)
        rw [hag] at ha
        simp only [Instr.loadAt, Instr.sureAddr, pure_bind, loadVar, Sem.run_bind, ha, Result.andThen_ok, if_true, ok.run_size, x3]
        rfl
      | false =>
        intro nx lg a h' nx' lg' hn e
        obtain ⟨el, es, ex, cs, v, h1, h2, h3⟩ := run_cell e
        obtain ⟨e4, e5⟩ := run_ret h3
        cases e5; subst e4
        obtain ⟨pl', c, el', fz, m1, m2, m3, m4, m5⟩ := r.live h1
        rw [hM] at m1; cases m1
        obtain ⟨x, x1, x2⟩ := m3.cell _ _ h2
        refine ⟨M, w, x, ?_, M.le_refl, r, x2, Below.refl _ _, hn⟩
        have ha := ok.run_isAgg (w := w)
        rw [hag] at ha
        simp only [Instr.loadAt, Instr.sureAddr, pure_bind, loadVar, Sem.run_bind, ha, Result.andThen_ok, Bool.false_eq_true, if_false, run_load, cell_of pl _ m3.heap, x1]
  | _ => exact Snd.bad

theorem one_of {v : V} {x : Value} (hv : VR env M v x) (ho : oneC v = true) : oneCell x := by
  cases hv <;> first | trivial | (cases ho)
/-- Cells laid over a row's. -/
theorem sets_write (r : Rel env n0 M h w) {b lo : Nat} {el : TypeId} {es : Nat} {ex : Bool} {cs nw : RL V} {xs : List Value} {pl : Pl} (h1 : h.get b = some (.cells el es ex true cs)) (hM : M b = some pl)
    (hRO : RO ≤ b) (hone : ∀ v ∈ nw.toList, oneC v = true) (hl : lo + nw.toList.length ≤ cs.toList.length) (hx : VRs env M nw.toList xs) :
    ∃ w', (storeCells ⟨pl.blk, pl.off + lo, none⟩ xs).run P w = .ok () w' ∧ Rel env n0 M (h.set b (.cells el es ex true (setRL nw cs lo))) w' ∧ Below n0.n w w' := by
  obtain ⟨pl', c, el', fz, m1, m2, m3, m4, m5⟩ := r.live h1
  rw [hM] at m1; cases m1
  have hlen := m3.len
  have hsz := m3.size
  have hxl := hx.length
  have hxo : ∀ x ∈ xs, oneCell x := by
    intro x hx'
    obtain ⟨i, hi⟩ := List.getElem?_of_mem hx'
    have hv : nw.toList[i]? = some (nw.toList[i]'(by have := (List.getElem?_eq_some_iff.1 hi).1; omega)) := List.getElem?_eq_getElem _
    obtain ⟨y, y1, y2⟩ := hx.get i _ hv
    rw [hi] at y1; cases y1
    exact one_of y2 (hone _ (List.getElem_mem _))
  obtain ⟨w', r1, r2, r3, r4, r5⟩ := storeCells_run (P := P) pl.blk el' fz (pl.off + lo) xs 0 w c m3.heap (by omega) (m3.free (m4 hRO).2) hxo
  refine ⟨w', r1, ?_, r5 n0.n r.size (m4 hRO).1⟩
  refine r.write h1 hM hRO (by rw [r2]) r4 r3 (by rw [lay_size]; exact hsz) (by rw [setRL_toList]; simp; omega) ?_ (by rw [lay_size]; exact m3.unfz (m4 hRO).2)
  intro i v hv
  rw [setRL_toList] at hv
  rw [lay_get xs c _ _ (by omega)]
  by_cases hi : i < lo
  · rw [if_neg (by omega)]
    rw [List.getElem?_append_left (by simp; omega), List.getElem?_take, if_pos hi] at hv
    exact m3.cell i v hv
  · rw [List.getElem?_append_right (by simp; omega)] at hv
    rw [show (cs.toList.take lo).length = lo by simp; omega] at hv
    by_cases hi2 : i - lo < nw.toList.length
    · rw [if_pos (by omega)]
      rw [List.getElem?_append_left hi2] at hv
      obtain ⟨x, x1, x2⟩ := hx.get _ _ hv
      exact ⟨x, by rw [show pl.off + i - (pl.off + lo + 0) = i - lo by omega]; exact x1, x2⟩
    · rw [if_neg (by omega)]
      rw [List.getElem?_append_right (by omega), List.getElem?_drop] at hv
      rw [show lo + nw.toList.length + (i - lo - nw.toList.length) = i by omega] at hv
      exact m3.cell i v hv
theorem set_eq_setRL (cs : RL V) (o : Nat) (v : V) (ho : o < cs.toList.length) : (cs.set o v).toList = (setRL [(v, 1)] cs o).toList := by
  rw [RL.toList_set, setRL_toList, RL.toList_cons, RL.toList_nil]
  rw [List.set_eq_take_append_cons_drop, if_pos ho]
  rfl
/-- Two rows of the same cells stand alike. -/
theorem Rel.swap {b : Nat} {el : TypeId} {es : Nat} {ex : Bool} {cs cs' : RL V} (r : Rel env n0 M (h.set b (.cells el es ex true cs)) w) (e : cs.toList = cs'.toList) :
    Rel env n0 M (h.set b (.cells el es ex true cs')) w := by
  refine ⟨?_, ?_, ?_, r.size, r.old, r.kept, fun kk pl' ob hob hM' hro hal => by
    rw [Tr.get_set] at hob
    by_cases ek : kk = b
    · subst ek; exact r.apart _ pl' (.cells el es ex true cs) (by rw [Tr.get_set, if_pos rfl]) hM' hro rfl
    · rw [if_neg ek] at hob; exact r.apart kk pl' ob (by rw [Tr.get_set, if_neg ek]; exact hob) hM' hro hal⟩
  · intro k hk
    refine r.dom k ?_
    rw [Tr.get_set] at hk ⊢
    split at hk
    · cases hk
    · rename_i hn; rw [if_neg hn]; exact hk
  · intro k ob hob
    rw [Tr.get_set] at hob
    by_cases ek : k = b
    · subst ek
      rw [if_pos rfl] at hob
      cases hob
      obtain ⟨pl, m1, m2, m3, m4, m5⟩ := r.row k (.cells el es ex true cs) (by rw [Tr.get_set, if_pos rfl])
      refine ⟨pl, m1, ?_, m3, m4, m5⟩
      cases m2 with
      | live _ _ _ c el' fz a1 a2 a3 a4 a5 a6 => exact .live el ex cs' c el' fz a1 a2 (by rw [← e]; exact a3) (by rw [← e]; exact a4) a5 (by rw [← e]; exact a6)
    · rw [if_neg ek] at hob
      exact r.row k ob (by rw [Tr.get_set, if_neg ek]; exact hob)
  · intro a a' oa oa' pa pa' g1 g2 l1 l2 ro1 ro2 m1 m2 hbk
    rw [Tr.get_set] at g1 g2
    have get : ∀ a oa, (if a = b then some (Ob.cells el es ex true cs') else h.get a) = some oa → aliveO oa = true → ∃ oo, (h.set b (.cells el es ex true cs)).get a = some oo ∧ aliveO oo = true := by
      intro a oa g l
      rw [Tr.get_set]
      by_cases ea : a = b
      · subst ea; exact ⟨_, by rw [if_pos rfl], rfl⟩
      · rw [if_neg ea] at g; exact ⟨oa, by rw [if_neg ea]; exact g, l⟩
    obtain ⟨o1, g1', l1'⟩ := get a oa g1 l1
    obtain ⟨o2, g2', l2'⟩ := get a' oa' g2 l2
    exact r.inj a a' o1 o2 pa pa' g1' g2' l1' l2' ro1 ro2 m1 m2 hbk

/-- A store. -/
theorem store_snd (hT : TabOk P cx) (r : Rel env n0 M h w) {a v : V} {a' v' : Value} (ha : VR env M a a') (hv : VR env M v v') (t : TypeId) :
    SndU env n0 P M h w (vstore a cx t v) (Instr.storeAt t a' v') := by
  cases ha with
  | p b o pl hM =>
    show SndU env n0 P M h w (vstore2 (tiSize (cx.ty.get t)) (cellsV v) b o) _
    cases ht : cx.ty.get t with
    | none => exact Snd.badU
    | some ti =>
      have ok := hT t ti ht
      have hc := hv.cells
      have hcl := hc.length
      show SndU env n0 P M h w (match Nat.beq ti.size (cellsV v).length with | true => vstore3 (cellsV v) b o | false => .bad 4) _
      cases hb : Nat.beq ti.size (cellsV v).length with
      | false => exact Snd.badU
      | true =>
        have hsz : ti.size = (cellsV v).length := Nat.eq_of_beq_eq_true hb
        have hst : (Instr.storeAt t (.pointer (some ⟨pl.blk, pl.off + o, none⟩)) v').run P w = (storeCells ⟨pl.blk, pl.off + o, none⟩ v'.cells.toList).run P w := by
          simp only [Instr.storeAt, Instr.sureAddr, pure_bind, storeVar, Sem.run_bind, ok.run_size, Result.andThen_ok]
          rw [if_neg (by rw [hsz, hcl]; simp)]
        intro nx lg a h' nx' lg' hn e
        have main : ∀ nw : RL V, nw.toList = cellsV v → (Pr.sets b o nw (.ret ())).run h nx lg = .ok a (.mk h' nx' lg') →
            ∃ M' w' x, (Instr.storeAt t (.pointer (some ⟨pl.blk, pl.off + o, none⟩)) v').run P w = .ok x w' ∧ M.le M' ∧ Rel env n0 M' h' w' ∧ True ∧ Below n0.n w w' ∧ RO ≤ nx' := by
          intro nw hnw e
          obtain ⟨el, es, ex, cs, h1, h2, h3, h4, h5⟩ := run_sets e
          obtain ⟨_, e5⟩ := run_ret h5
          cases e5
          rw [hnw] at h3 h4
          obtain ⟨w', s1, s2, s3⟩ := sets_write (P := P) r (nw := nw) h1 hM h2 (by rw [hnw]; exact h3) (by rw [hnw]; exact h4) (by rw [hnw]; exact hc)
          exact ⟨M, w', (), by rw [hst]; exact s1, M.le_refl, s2, trivial, s3, hn⟩
        match hcv : cellsV v, e with
        | [], e => exact main (RL.ofList []) (by rw [RL.toList_ofList, hcv]) e
        | [y], e =>
          obtain ⟨el, es, ex, cs, h1, h2, h3, h4, h5⟩ := run_setc e
          obtain ⟨_, e5⟩ := run_ret h5
          cases e5
          have hnw : RL.toList [(y, 1)] = cellsV v := by rw [hcv]; rfl
          obtain ⟨w', s1, s2, s3⟩ := sets_write (P := P) r (lo := o) (nw := [(y, 1)]) h1 hM h2 (by rw [hnw, hcv]; simpa using h3) (by rw [hnw, hcv]; simp; omega) (by rw [hnw]; exact hc)
          exact ⟨M, w', (), by rw [hst]; exact s1, M.le_refl, s2.swap (set_eq_setRL cs o y h4).symm, trivial, s3, hn⟩
        | y :: z :: l, e => exact main (RL.ofList (y :: z :: l)) (by rw [RL.toList_ofList, hcv]) e
  | _ => exact Snd.badU
end ops
end Go.Vm
namespace Go.Vm
open Go.RowKit
section ops
variable {env : Nat → Int} {n0 : Old} {P : Program} {M : Mp} {h : Tr Ob} {w : World} {cx : Cx}

/-- A new row. -/
theorem new_row (r : Rel env n0 M h w) {α : Type} {e : TypeId} {es : Nat} {cs : RL V} {ex : Bool} {k : Nat → Pr α} {nx nx' : Nat} {lg lg' : Lg} {a : α} {h' : Tr Ob} (hn : RO ≤ nx)
    (hr : (Pr.new (.cells e es ex true cs) k).run h nx lg = .ok a (.mk h' nx' lg')) {xs : List Value} (hx : VRs env M cs.toList xs) (rest : Array Value) (hex : ex = true → rest.size = 0) (e' : TypeId) :
    (k nx).run (h.set nx (.cells e es ex true cs)) (nx + 1) lg = .ok a (.mk h' nx' lg') ∧ M nx = none ∧
      Rel env n0 (M.add nx ⟨w.heap.size, 0, xs.length + rest.size, es, false⟩) (h.set nx (.cells e es ex true cs)) { w with heap := w.heap.push (.cells (xs.toArray ++ rest) e' (0, 0)) } := by
  obtain ⟨h1, h2⟩ := run_new hr
  have hM := r.dom nx h1
  refine ⟨h2, hM, ?_⟩
  refine r.push h1 hn rfl rfl fun w' hw' => ?_
  exact OR.fresh (pl := ⟨w.heap.size, 0, xs.length + rest.size, es, false⟩) (hx.mono (Mp.le_add hM)) rfl rfl hex hw'
theorem add_self (M : Mp) (n : Nat) (pl : Pl) : M.add n pl n = some pl := by unfold Mp.add; rw [if_pos rfl]

/-- A new variable: its place. -/
theorem var_snd (r : Rel env n0 M h w) {v : V} {x : Value} (hv : VR env M v x) (t e : TypeId) (es : Nat) {s : Sem Value}
    (hs : s.run P w = .ok (.pointer (some ⟨w.heap.size, 0, none⟩)) { w with heap := w.heap.push (.cells x.cells t (0, 0)) }) :
    SndV env n0 P M h w (vnew e es (RL.ofList (cellsV v)) true ptrTo) s := by
  intro nx lg a h' nx' lg' hn hr
  have hc := hv.cells
  obtain ⟨h1, h2, h3⟩ := new_row r (xs := x.cells.toList) hn hr (by rw [RL.toList_ofList]; exact hc) #[] (fun _ => rfl) t
  obtain ⟨e4, e5⟩ := run_ret h1
  cases e5; subst e4
  rw [show x.cells.toList.toArray ++ (#[] : Array Value) = x.cells by simp] at h3
  exact ⟨_, _, _, hs, Mp.le_add h2, h3, VR.p nx 0 _ (add_self _ _ _), push_below r.size _, by omega⟩
theorem alloc_snd (hT : TabOk P cx) (r : Rel env n0 M h w) (e : TypeId) :
    SndV env n0 P M h w (allocZ (tiZero (cx.ty.get e)) e) (Instr.alloc e true (.tuple #[])) := by
  cases ht : cx.ty.get e with
  | none => exact Snd.bad
  | some ti =>
    show SndV env n0 P M h w (allocZ ti.zero e) _
    cases hz : ti.zero with
    | none => exact Snd.bad
    | some z =>
      obtain ⟨x, x1, x2⟩ := (hT e ti ht).run_zero (w := w) hz
      refine var_snd r (x2 env M) e e 1 ?_
      simp only [Instr.alloc, Sem.run_bind, x1, Result.andThen_ok, newVar, newRow, run_newObj, Sem.run_pure]
theorem box_snd (r : Rel env n0 M h w) {v : V} {x : Value} (hv : VR env M v x) (e : TypeId) :
    SndV env n0 P M h w (vnew e 1 (RL.ofList (cellsV v)) true ptrTo) (Instr.box e x) := by
  refine var_snd r hv e e 1 ?_
  simp only [Instr.box, Sem.run_bind, newVar, newRow, run_newObj, Result.andThen_ok, Sem.run_pure]

/-! ### fields -/
theorem fldAt_eq (l : List (TypeId × Nat × Bool)) : ∀ n, fldAt l n = l[n]? := by
  induction l with
  | nil => intro n; rfl
  | cons x l ih => intro n; cases n with
    | zero => rfl
    | succ n => exact ih n
theorem nth_eq (l : List V) : ∀ n, nth l n = l[n]? := by
  induction l with
  | nil => intro n; rfl
  | cons x l ih => intro n; cases n with
    | zero => rfl
    | succ n => exact ih n
theorem tk_ok (hT : TabOk P cx) (t : TypeId) : KOk P t (tk cx t) := by
  unfold tk
  cases ht : cx.ty.get t with
  | none => trivial
  | some ti => exact (hT t ti ht).k
theorem tsize_ok (hT : TabOk P cx) {t : TypeId} {n : Nat} (e : tsize cx t = some n) (w : World) : (sizeOf t).run P w = .ok n w := by
  unfold tsize at e
  cases ht : cx.ty.get t with
  | none => rw [ht] at e; cases e
  | some ti => rw [ht] at e; cases e; exact (hT t ti ht).run_size
theorem field_of {fields : Array Field} {fs : List (TypeId × Nat × Bool)} (hfs : fs = fields.toList.map fun f => (f.type, f.offset, f.name == "_")) {f : Nat} {x : TypeId × Nat × Bool} (e : fldAt fs f = some x) :
    ∃ fd : Field, fields[f]? = some fd ∧ x = (fd.type, fd.offset, fd.name == "_") := by
  rw [fldAt_eq, hfs, List.getElem?_map] at e
  cases hg : fields.toList[f]? with
  | none => rw [hg] at e; cases e
  | some fd => rw [hg] at e; cases e; exact ⟨fd, by simpa using hg, rfl⟩
theorem fieldAddr_snd (hT : TabOk P cx) (r : Rel env n0 M h w) {v : V} {x : Value} (hv : VR env M v x) (t : TypeId) (f : Nat) :
    SndV env n0 P M h w (vfieldAddr (tk cx t) cx v f) (Instr.fieldAt t x f) := by
  have hk := tk_ok hT t
  cases hkk : tk cx t with
  | struct fs =>
    rw [hkk] at hk
    obtain ⟨fields, hu, hfs⟩ := hk
    show SndV env n0 P M h w (fieldAddr1 v cx (fldAt fs f)) _
    cases hv with
    | p b o pl hM =>
      show SndV env n0 P M h w (fieldAddr2 (fldAt fs f) cx b o) _
      cases hf : fldAt fs f with
      | none => exact Snd.bad
      | some y =>
        obtain ⟨fd, hfd, rfl⟩ := field_of hfs hf
        show SndV env n0 P M h w (fld (tsize cx fd.type) fd.offset b o) _
        cases hs : tsize cx fd.type with
        | none => exact Snd.bad
        | some n => cases n with
          | zero => exact Snd.bad
          | succ n =>
            have hsz := tsize_ok hT hs w
            refine Snd.ret r ?_ (VR.p b (o + fd.offset) pl hM)
            simp only [Instr.fieldAt, Sem.run_bind, run_und hu, Result.andThen_ok, hfd, Instr.sureAddr, pure_bind, fieldPlace, hsz, Nat.add_one_ne_zero, if_false, Sem.run_pure, add_eq, Nat.add_assoc]
    | _ => exact Snd.bad
  | _ => exact Snd.bad
theorem part_snd (hT : TabOk P cx) (r : Rel env n0 M h w) {cs : List V} {c : Array Value} (hc : VRs env M cs c.toList) (t : TypeId) (off : Nat) :
    SndV env n0 P M h w (vpart (cx.ty.get t) cs off) (part t c off) := by
  cases ht : cx.ty.get t with
  | none => exact Snd.bad
  | some ti =>
    have ok := hT t ti ht
    have ha := ok.run_isAgg (w := w)
    show SndV env n0 P M h w (match ti.ag with | true => .ret (.agg ((cs.drop off).take ti.size)) | false => retO (nth cs off)) _
    cases hag : ti.ag with
    | true =>
      rw [hag] at ha
      refine Snd.ret r ?_ (VR.agg _ (c.extract off (off + ti.size)) ?_)
      · simp only [part, Sem.run_bind, ha, Result.andThen_ok, if_true, ok.run_size, Sem.run_pure]
      · have := (hc.drop off).take ti.size
        simpa [List.extract_eq_take_drop] using this
    | false =>
      rw [hag] at ha
      show SndV env n0 P M h w (retO (nth cs off)) _
      rw [nth_eq]
      cases hg : cs[off]? with
      | none => exact Snd.bad
      | some v =>
        obtain ⟨x, x1, x2⟩ := hc.get _ _ hg
        refine Snd.ret r ?_ x2
        have x1' : c[off]? = some x := by simpa using x1
        simp only [part, Sem.run_bind, ha, Result.andThen_ok, Bool.false_eq_true, if_false, x1', Sem.run_pure]
theorem field_snd (hT : TabOk P cx) (r : Rel env n0 M h w) {v : V} {x : Value} (hv : VR env M v x) (t : TypeId) (f : Nat) :
    SndV env n0 P M h w (vfield (tk cx t) cx v f) (Instr.field t x f) := by
  have hk := tk_ok hT t
  cases hkk : tk cx t with
  | struct fs =>
    rw [hkk] at hk
    obtain ⟨fields, hu, hfs⟩ := hk
    show SndV env n0 P M h w (vfield2 v cx (fldAt fs f)) _
    cases hv with
    | agg l c hc =>
      show SndV env n0 P M h w (match fldAt fs f with | some f => vpart (cx.ty.get f.1) l f.2.1 | none => .bad 17) _
      cases hf : fldAt fs f with
      | none => exact Snd.bad
      | some y =>
        obtain ⟨fd, hfd, rfl⟩ := field_of hfs hf
        have := part_snd hT r hc fd.type fd.offset (P := P)
        intro nx lg a h' nx' lg' hn e
        obtain ⟨M', w', x, y1, y2⟩ := this nx lg a h' nx' lg' hn e
        refine ⟨M', w', x, ?_, y2⟩
        simp only [Instr.field, Sem.run_bind, run_und hu, Result.andThen_ok, hfd, asAgg, pure_bind, y1]
    | _ => exact Snd.bad
  | _ => exact Snd.bad

/-! ### places of elements -/
theorem asN_eq {v : V} {i : Int} (e : asN v = some i) : ∃ k, v = .i k (.c i) := by
  match v, e with
  | .i k (.c n), e => cases e; exact ⟨k, rfl⟩
theorem asN_of {v : V} {x : Value} (hv : VR env M v x) {i : Int} (e : asN v = some i) : ∃ k, x = .int k i := by
  obtain ⟨k, rfl⟩ := asN_eq e
  cases hv
  exact ⟨k, rfl⟩
theorem below_eq (i : Int) (n : Nat) : below i n = true ↔ 0 ≤ i ∧ i < n := by
  cases i with
  | ofNat m => show Nat.ble (m + 1) n = true ↔ _; rw [RL.ble_dec]; simp; omega
  | negSucc m => exact ⟨(fun e => by cases e), (fun e => by have := e.1; omega)⟩
theorem upto_eq (i : Int) (n : Nat) : upto i n = true ↔ 0 ≤ i ∧ i ≤ n := by
  cases i with
  | ofNat m => show Nat.ble m n = true ↔ _; rw [RL.ble_dec]; simp
  | negSucc m => exact ⟨(fun e => by cases e), (fun e => by have := e.1; omega)⟩
theorem idx2_snd (hT : TabOk P cx) (r : Rel env n0 M h w) {b o len : Nat} {i : Int} {e : TypeId} {pl : Pl} {a : Addr} (hM : M b = some pl) (hp : 0 < len → a = ⟨pl.blk, pl.off + o, none⟩) {s : Sem Value}
    (hs : ∀ n, (sizeOf e).run P w = .ok n w → 0 ≤ i ∧ i < len → s.run P w = .ok (.pointer (some (a.add (i.toNat * n)))) w) :
    SndV env n0 P M h w (idx2 (tsize cx e) b o len i) s := by
  cases hz : tsize cx e with
  | none => exact Snd.bad
  | some n =>
    show SndV env n0 P M h w (match below i len with | true => .ret (.p (some (b, Nat.add o (Nat.mul i.toNat n)))) | false => .bad 7) _
    cases hb : below i len with
    | false => exact Snd.bad
    | true =>
      have hi := (below_eq i len).1 hb
      have ha := hp (by omega)
      refine Snd.ret r (hs n (tsize_ok hT hz w) hi) ?_
      rw [ha, add_eq, Nat.add_assoc]
      exact VR.p b (o + i.toNat * n) pl hM
theorem indexAddr_snd (hT : TabOk P cx) (r : Rel env n0 M h w) {v ix : V} {x ix' : Value} (hv : VR env M v x) (hi : VR env M ix ix') (t : TypeId) :
    SndV env n0 P M h w (vindexAddr (tk cx t) cx v ix) (Instr.indexAt t x ix') := by
  have hk := tk_ok hT t
  cases hkk : tk cx t with
  | slice e =>
    rw [hkk] at hk
    show SndV env n0 P M h w (idxSl v cx e (asN ix)) _
    cases hv with
    | sl b o l c c' pl a hM h1 h2 h3 h4 =>
      show SndV env n0 P M h w (match asN ix with | some i => idx2 (tsize cx e) b o l i | none => .bad 9) _
      cases hn : asN ix with
      | none => exact Snd.bad
      | some i =>
        obtain ⟨k, rfl⟩ := asN_of hi hn
        refine idx2_snd hT r hM (fun hl => h3.resolve_right (by omega)) fun n hsz hb => ?_
        have hu : P.underlying t = some (.slice e) := hk
        simp only [Instr.indexAt, Sem.run_bind, asIntOf, Result.andThen_ok, run_und hu, pure_bind]
        rw [if_pos (by simpa using hb)]
        simp only [Sem.run_bind, hsz, Result.andThen_ok, Sem.run_pure]
    | _ => exact Snd.bad
  | array len e =>
    rw [hkk] at hk
    show SndV env n0 P M h w (idxAr v cx len e (asN ix)) _
    cases hv with
    | p b o pl hM =>
      show SndV env n0 P M h w (match asN ix with | some i => idx2 (tsize cx e) b o len i | none => .bad 9) _
      cases hn : asN ix with
      | none => exact Snd.bad
      | some i =>
        obtain ⟨k, rfl⟩ := asN_of hi hn
        refine idx2_snd hT r hM (fun hl => rfl) fun n hsz hb => ?_
        have hu : P.underlying t = some (.array len e) := hk
        simp only [Instr.indexAt, Sem.run_bind, asIntOf, Result.andThen_ok, run_und hu, pure_bind, Instr.sureAddr]
        rw [if_pos (by simpa using hb)]
        simp only [Sem.run_bind, hsz, Result.andThen_ok, Sem.run_pure]
    | _ => exact Snd.bad
  | _ => exact Snd.bad
end ops
end Go.Vm
namespace Go.Vm
open Go.RowKit
open Go.Builtin (zeroCells)
section ops
variable {env : Nat → Int} {n0 : Old} {P : Program} {M : Mp} {h : Tr Ob} {w : World} {cx : Cx}

theorem lay_toList (xs : List Value) (c : Array Value) (i : Nat) (hi : i + xs.length ≤ c.size) : (lay c i xs).toList = c.toList.take i ++ xs ++ c.toList.drop (i + xs.length) := by
  apply List.ext_getElem?
  intro k
  have h1 : (lay c i xs).toList[k]? = (lay c i xs)[k]? := by simp
  rw [h1, lay_get xs c i k hi]
  by_cases a : k < i
  · rw [if_neg (by omega), List.append_assoc, List.getElem?_append_left (by simp; omega), List.getElem?_take, if_pos a]; simp
  · by_cases b : k < i + xs.length
    · rw [if_pos ⟨by omega, b⟩, List.append_assoc, List.getElem?_append_right (by simp; omega), List.getElem?_append_left (by simp; omega)]
      congr 1; simp; omega
    · rw [if_neg (by omega), List.getElem?_append_right (by simp; omega), List.getElem?_drop]
      have : (c.toList.take i ++ xs).length = i + xs.length := by simp; omega
      rw [this, show i + xs.length + (k - (i + xs.length)) = k by omega]; simp
theorem fold_lay (off : Nat) : ∀ (xs : List Value) (c : Array Value) (j : Nat), (xs.zipIdx j).foldl (fun (cs : Array Value) (p : Value × Nat) => cs.setIfInBounds (off + p.2) p.1) c = lay c (off + j) xs
  | [], c, j => rfl
  | x :: xs, c, j => by
    rw [List.zipIdx_cons, List.foldl_cons, fold_lay off xs, lay]
    rfl
theorem fold_lay' (off : Nat) (v c : Array Value) : v.zipIdx.foldl (fun (cs : Array Value) (p : Value × Nat) => cs.setIfInBounds (off + p.2) p.1) c = lay c off v.toList := by
  rw [← Array.foldl_toList, Array.toList_zipIdx]
  exact fold_lay off v.toList c 0
/-- Parts laid into cells. -/
theorem fill_of (place place' : Nat → Option (Nat × Nat)) (hp : ∀ i p, place i = some p → place' i = some p) : ∀ (ps : List (Nat × V)) (ps' : List (Nat × Value)) (cs : List V) (c : Array Value) (out : List V),
    ps.map (·.1) = ps'.map (·.1) → VRs env M (ps.map (·.2)) (ps'.map (·.2)) → VRs env M cs c.toList → vfill place ps cs = some out →
    ∃ c', Instr.fill place' c ps' = some c' ∧ VRs env M out c'.toList
  | [], [], cs, c, out, _, _, hc, e => by cases e; exact ⟨c, rfl, hc⟩
  | [], _ :: _, _, _, _, h1, _, _, _ => by simp at h1
  | _ :: _, [], _, _, _, h1, _, _, _ => by simp at h1
  | (i, v) :: ps, (i', x) :: ps', cs, c, out, h1, h2, hc, e => by
    simp only [List.map_cons, List.cons.injEq] at h1
    obtain ⟨rfl, h1⟩ := h1
    cases h2 with
    | cons _ _ _ _ hv h2 =>
      have e' : fill1 (place i) (cellsV v) cs (vfill place ps) = some out := e
      cases hpl : place i with
      | none => rw [hpl] at e'; cases e'
      | some p =>
        rw [hpl] at e'
        have hcv := hv.cells
        have e2 : (match Nat.beq (cellsV v).length p.2 && Nat.ble (Nat.add p.1 p.2) cs.length with | true => vfill place ps (fillAt cs p.1 (cellsV v)) | false => none) = some out := e'
        cases hb : (Nat.beq (cellsV v).length p.2 && Nat.ble (Nat.add p.1 p.2) cs.length) with
        | false => rw [hb] at e2; cases e2
        | true =>
          rw [hb] at e2
          rw [Bool.and_eq_true] at hb
          have hb1 : (cellsV v).length = p.2 := Nat.eq_of_beq_eq_true hb.1
          have hb2 : p.1 + p.2 ≤ cs.length := Nat.le_of_ble_eq_true hb.2
          have hcl := hcv.length
          have hcs := hc.length
          have hsz : x.cells.size = p.2 := by rw [← hb1, hcl]; simp
          have hcc : c.size = cs.length := by rw [hcs]; simp
          have hl := lay_toList x.cells.toList c p.1 (by simp; omega)
          obtain ⟨c', f1, f2⟩ := fill_of place place' hp ps ps' (fillAt cs p.1 (cellsV v)) (lay c p.1 x.cells.toList) out h1 h2 (by
            rw [hl]
            unfold fillAt
            rw [show (cellsV v).length = x.cells.toList.length by rw [hcl]]
            exact ((hc.take _).append hcv).append (hc.drop _)) e2
          refine ⟨c', ?_, f2⟩
          simp only [Instr.fill, hp i p hpl]
          rw [if_neg (by simp; omega), fold_lay']
          exact f1

theorem allSized_eq (cx : Cx) (fs : List (TypeId × Nat × Bool)) (e : allSized cx fs = true) : ∀ f ∈ fs, ∃ n, tsize cx f.1 = some n := by
  induction fs with
  | nil => intro f hf; cases hf
  | cons f fs ih =>
    intro g hg
    have h2 : (Bool.rec false (allSized cx fs) (isS (tsize cx f.1)) : Bool) = true := e
    cases ht : tsize cx f.1 with
    | none => rw [ht] at h2; cases h2
    | some n =>
      rw [ht] at h2
      rcases List.mem_cons.1 hg with rfl | hg
      · exact ⟨n, ht⟩
      · exact ih h2 g hg
theorem mapM_run {α β : Type} (f : α → Sem β) (g : α → β) (l : List α) (w : World) (hf : ∀ x ∈ l, (f x).run P w = .ok (g x) w) : (l.mapM f).run P w = .ok (l.map g) w := by
  induction l with
  | nil => rfl
  | cons x l ih =>
    simp only [List.mapM_cons, Sem.run_bind, hf x (by simp), Result.andThen_ok, ih (fun y hy => hf y (by simp [hy])), List.map_cons]
    rfl
theorem mapMA_run {α β : Type} (f : α → Sem β) (g : α → β) (a : Array α) (w : World) (hf : ∀ x ∈ a.toList, (f x).run P w = .ok (g x) w) : (a.mapM f).run P w = .ok (a.map g) w := by
  rw [Array.mapM_eq_mapM_toList, Sem.run_map, mapM_run f g a.toList w hf, Result.andThen_ok]
  rw [← Array.toList_map]
/-- A struct or an array is built. -/
theorem build_snd (hT : TabOk P cx) (r : Rel env n0 M h w) {ps : List (Nat × V)} {ps' : Array (Nat × Value)} (h1 : ps.map (·.1) = ps'.toList.map (·.1)) (h2 : VRs env M (ps.map (·.2)) (ps'.toList.map (·.2))) (t : TypeId) :
    SndV env n0 P M h w (vbuild (cx.ty.get t) cx ps) (Instr.build t ps') := by
  cases ht : cx.ty.get t with
  | none => exact Snd.bad
  | some ti =>
    have ok := hT t ti ht
    show SndV env n0 P M h w (match zeroAgg ti.zero with | some z => build2 ti.k cx ps z | none => .bad 22) _
    cases hz : zeroAgg ti.zero with
    | none => exact Snd.bad
    | some z =>
      have hz' : ti.zero = some (.agg z) := by
        match hh : ti.zero, hz with
        | some (.agg z), hz => cases hz; rfl
      obtain ⟨x, x1, x2⟩ := ok.run_zero (w := w) hz'
      have hzx := (x2 env M).cells
      have hk := ok.k
      show SndV env n0 P M h w (build2 ti.k cx ps z) _
      cases hkk : ti.k with
      | struct fs =>
        rw [hkk] at hk
        obtain ⟨fields, hu, hfs⟩ := hk
        show SndV env n0 P M h w (match allSized cx fs with | true => aggO (vfill (placeS cx fs) ps z) | false => .bad 20) _
        cases hall : allSized cx fs with
        | false => exact Snd.bad
        | true =>
          show SndV env n0 P M h w (aggO (vfill (placeS cx fs) ps z)) _
          cases hf : vfill (placeS cx fs) ps z with
          | none => exact Snd.bad
          | some out =>
            have hsz : ∀ fd ∈ fields.toList, ∃ n, tsize cx fd.type = some n := by
              intro fd hfd
              exact allSized_eq cx fs hall (fd.type, fd.offset, fd.name == "_") (by rw [hfs]; exact List.mem_map.2 ⟨fd, hfd, rfl⟩)
            let g : Field → Nat × Nat := fun fd => (fd.offset, (tsize cx fd.type).getD 0)
            have hm := mapMA_run (P := P) (fun fd : Field => (do pure (fd.offset, ← sizeOf fd.type) : Sem (Nat × Nat))) g fields w (by
              intro fd hfd
              obtain ⟨n, hn⟩ := hsz fd hfd
              simp only [Sem.run_bind, tsize_ok hT hn w, Result.andThen_ok, Sem.run_pure, g, hn, Option.getD_some])
            obtain ⟨c', f1, f2⟩ := fill_of (env := env) (M := M) (placeS cx fs) (fun i => (fields.map g)[i]?) (by
              intro i p hp
              unfold placeS at hp
              cases hfa : fldAt fs i with
              | none => rw [hfa] at hp; cases hp
              | some y =>
                obtain ⟨fd, hfd, rfl⟩ := field_of hfs hfa
                rw [hfa] at hp
                cases hts : tsize cx fd.type with
                | none => simp only [hts] at hp; cases hp
                | some n =>
                  simp only [hts] at hp
                  cases hp
                  simp [hfd, g, hts]) ps ps'.toList z x.cells out h1 h2 hzx hf
            refine Snd.ret r ?_ (VR.agg _ c' f2)
            simp only [Instr.build, Sem.run_bind, x1, Result.andThen_ok, run_und hu]
            rw [hm]
            simp only [Result.andThen_ok, f1, Sem.run_pure]
      | array n e =>
        rw [hkk] at hk
        have hu : P.underlying t = some (.array n e) := hk
        show SndV env n0 P M h w (match tsize cx e with | some n => aggO (vfill (placeN n) ps z) | none => .bad 21) _
        cases hts : tsize cx e with
        | none => exact Snd.bad
        | some sz =>
          show SndV env n0 P M h w (aggO (vfill (placeN sz) ps z)) _
          cases hf : vfill (placeN sz) ps z with
          | none => exact Snd.bad
          | some out =>
            obtain ⟨c', f1, f2⟩ := fill_of (env := env) (M := M) (placeN sz) (fun i => some (i * sz, sz)) (fun i p hp => hp) ps ps'.toList z x.cells out h1 h2 hzx hf
            refine Snd.ret r ?_ (VR.agg _ c' f2)
            simp only [Instr.build, Sem.run_bind, x1, Result.andThen_ok, run_und hu, tsize_ok hT hts w, f1, Sem.run_pure]
      | _ => exact Snd.bad

/-- The cells of so many zero values. -/
theorem zeros_of (x : Value) (n : Nat) : (List.replicate n x.cells.toList).flatten = (zeroCells x.cells n).toList := by
  have hlen : (zeroCells x.cells n).size = n * x.cells.size := by simp [zeroCells]
  apply List.ext_getElem?
  intro k
  by_cases hk : k < n * x.cells.size
  · have hpos : 0 < x.cells.size := by
      rcases Nat.eq_zero_or_pos x.cells.size with e | e
      · rw [e] at hk; omega
      · exact e
    have h2 : (zeroCells x.cells n).toList[k]? = x.cells[k % x.cells.size]? := by
      have hm : k % x.cells.size < x.cells.size := Nat.mod_lt _ hpos
      simp [zeroCells, hk, hm]
    rw [h2]
    clear h2 hlen
    induction n generalizing k with
    | zero => omega
    | succ n ih =>
      rw [List.replicate_succ, List.flatten_cons]
      by_cases hk2 : k < x.cells.size
      · rw [List.getElem?_append_left (by simpa using hk2), Nat.mod_eq_of_lt hk2]; simp
      · rw [List.getElem?_append_right (by simpa using Nat.le_of_not_lt hk2)]
        have := ih (k - x.cells.size) (by rw [Nat.add_mul] at hk; omega)
        rw [show k - x.cells.toList.length = k - x.cells.size by simp, this]
        congr 1
        exact (Nat.mod_eq_sub_mod (by omega)).symm
  · rw [List.getElem?_eq_none (by simp; omega), List.getElem?_eq_none (by simp only [Array.length_toList, hlen]; omega)]
theorem rep_zeros {z : V} {x : Value} (hz : VR env M z x) (n : Nat) : VRs env M (RL.rep n (cellsV z)).toList (zeroCells x.cells n).toList := by
  rw [RL.toList_rep, ← zeros_of x n]
  induction n with
  | zero => exact .nil
  | succ n ih => rw [List.replicate_succ, List.replicate_succ, List.flatten_cons, List.flatten_cons]; exact hz.cells.append ih
theorem range_zeros (c : Array Value) (n : Nat) : (Array.range (n * c.size)).map (fun i => c[i % c.size]!) = zeroCells c n := rfl
/-- A new row, and a slice over all of it or its begin. -/
theorem row_slice (r : Rel env n0 M h w) {cs : RL V} {xs : List Value} (hx : VRs env M cs.toList xs) (rest : Array Value) (e e' : TypeId) (es : Nat) (ex : Bool) (hex : ex = true → rest.size = 0) (l c c' : Nat)
    (hlc : l ≤ c) (hcc : c ≤ c') (hb : c' * es ≤ xs.length + rest.size) {s : Sem Value} {w1 : World} (hw1 : w1.heap = w.heap) (hbel : Below n0.n w w1)
    (hs : s.run P w = .ok (.slice (some ⟨w.heap.size, 0, none⟩) l c') { w1 with heap := w.heap.push (.cells (xs.toArray ++ rest) e' (0, 0)) }) :
    SndV env n0 P M h w (vnew e es cs ex (sliceTo l c)) s := by
  intro nx lg a h' nx' lg' hn hr
  obtain ⟨h1, h2, h3⟩ := new_row r (xs := xs) hn hr hx rest hex e'
  obtain ⟨e4, e5⟩ := run_ret h1
  cases e5; subst e4
  refine ⟨_, _, _, hs, Mp.le_add h2, h3.same rfl, ?_, ?_, by omega⟩
  · exact VR.sl nx 0 l c c' _ _ (add_self _ _ _) hcc (by simpa using hb) (.inl rfl) hlc
  · refine hbel.trans ?_
    have := push_below (B := n0.n) (w := w1) (by rw [hw1]; exact r.size) (.cells (xs.toArray ++ rest) e' (0, 0))
    rwa [hw1] at this
theorem buildSlice_snd (hT : TabOk P cx) (r : Rel env n0 M h w) {ps : List (Nat × V)} {ps' : Array (Nat × Value)} (h1 : ps.map (·.1) = ps'.toList.map (·.1)) (h2 : VRs env M (ps.map (·.2)) (ps'.toList.map (·.2))) (t : TypeId) (len : Nat) :
    SndV env n0 P M h w (vbuildSlice (tk cx t) cx len ps) (Instr.buildSlice t len ps') := by
  have hk := tk_ok hT t
  cases hkk : tk cx t with
  | slice e =>
    rw [hkk] at hk
    have hu : P.underlying t = some (.slice e) := hk
    show SndV env n0 P M h w (bsl2 (cx.ty.get e) e len ps) _
    cases ht : cx.ty.get e with
    | none => exact Snd.bad
    | some ti =>
      have ok := hT e ti ht
      show SndV env n0 P M h w (match ti.zero with | some z => bsl3 (vfill (placeN ti.size) ps (RL.rep len (cellsV z)).toList) e len ti.size (cellsV z).length | none => .bad 25) _
      cases hz : ti.zero with
      | none => exact Snd.bad
      | some z =>
        obtain ⟨x, x1, x2⟩ := ok.run_zero (w := w) hz
        have hxz := x2 env M
        have hzr := rep_zeros hxz len
        show SndV env n0 P M h w (bsl3 (vfill (placeN ti.size) ps (RL.rep len (cellsV z)).toList) e len ti.size (cellsV z).length) _
        cases hf : vfill (placeN ti.size) ps (RL.rep len (cellsV z)).toList with
        | none => exact Snd.bad
        | some out =>
          show SndV env n0 P M h w (match Nat.ble (Nat.mul len ti.size) 65536 && Nat.beq (cellsV z).length ti.size with | true => vnew e ti.size (RL.ofList out) true (sliceTo len len) | false => .bad 23) _
          cases hb : (Nat.ble (Nat.mul len ti.size) 65536 && Nat.beq (cellsV z).length ti.size) with
          | false => exact Snd.bad
          | true =>
            rw [Bool.and_eq_true] at hb
            have hb1 : len * ti.size ≤ 65536 := Nat.le_of_ble_eq_true hb.1
            have hb2 : (cellsV z).length = ti.size := Nat.eq_of_beq_eq_true hb.2
            have hxs : x.cells.size = ti.size := by have := hxz.cells.length; rw [← hb2, this]; simp
            obtain ⟨c', f1, f2⟩ := fill_of (env := env) (M := M) (placeN ti.size) (fun i => some (i * ti.size, ti.size)) (fun i p hp => hp) ps ps'.toList _ (zeroCells x.cells len) out h1 h2 hzr hf
            have hcl : c'.toList.length = len * ti.size := by
              have hfl : ∀ (place : Nat → Option (Nat × Nat)) (ps : List (Nat × Value)) (c c' : Array Value), Instr.fill place c ps = some c' → c'.size = c.size := by
                intro place ps
                induction ps with
                | nil => intro c c' e; simp only [Instr.fill] at e; cases e; rfl
                | cons p ps ih =>
                  intro c c' e
                  simp only [Instr.fill] at e
                  split at e
                  · cases e
                  · split at e
                    · cases e
                    · rw [ih _ _ e, fold_lay', lay_size]
              have := hfl _ _ _ _ f1
              simp only [Array.length_toList, this]
              simp [zeroCells, hxs]
            refine row_slice r (by rw [RL.toList_ofList]; exact f2) #[] e e ti.size true (fun _ => rfl) len len len (Nat.le_refl _) (Nat.le_refl _) (by rw [hcl]; simp) rfl (Below.refl _ _) ?_
            simp only [Instr.buildSlice, Sem.run_bind, run_und hu, Result.andThen_ok, ok.run_size]
            rw [if_neg (by omega)]
            by_cases h0 : len * ti.size = 0
            · rw [if_pos h0]
              have hz0 : (Array.range (len * ti.size)).map (fun i => (#[] : Array Value)[i % (#[] : Array Value).size]!) = zeroCells x.cells len := by
                simp [zeroCells, hxs, h0]
              simp only [pure_bind, hz0, f1, newRow, Sem.run_bind, run_newObj, Result.andThen_ok, Sem.run_pure]
              simp
            · rw [if_neg h0]
              have hz0 : (Array.range (len * ti.size)).map (fun i => x.cells[i % x.cells.size]!) = zeroCells x.cells len := by
                simp only [zeroCells, hxs]
              simp only [Sem.run_bind, x1, Result.andThen_ok, Sem.run_pure, hz0, f1, newRow, run_newObj]
              simp
  | _ => exact Snd.bad
end ops
end Go.Vm
namespace Go.Vm
open Go.RowKit
open Go.Builtin (zeroCells nextslicecap growBy lenOf firstCells)
section ops
variable {env : Nat → Int} {n0 : Old} {P : Program} {M : Mp} {h : Tr Ob} {w : World} {cx : Cx}

theorem and_true {a b : Bool} (e : (a && b) = true) : a = true ∧ b = true := by simpa using e
theorem wrap64_id {n : Int} (h0 : 0 ≤ n) (h1 : n ≤ 1048576) : IntKind.i64.wrap n = n := by
  simp only [IntKind.wrap, IntKind.bits, IntKind.signed]
  simp
  omega
theorem makeSlice_snd (hT : TabOk P cx) (r : Rel env n0 M h w) {lv cv : V} {l' c' : Value} (hl : VR env M lv l') (hc : VR env M cv c') (t : TypeId) :
    SndV env n0 P M h w (vmakeSlice (tk cx t) cx (asN lv) (asN cv)) (Instr.makeSlice t l' c') := by
  have hk := tk_ok hT t
  cases hkk : tk cx t with
  | slice e =>
    rw [hkk] at hk
    have hu : P.underlying t = some (.slice e) := hk
    cases hln : asN lv with
    | none => exact Snd.bad
    | some l =>
      cases hcn : asN cv with
      | none => exact Snd.bad
      | some c =>
        obtain ⟨k1, rfl⟩ := asN_of hl hln
        obtain ⟨k2, rfl⟩ := asN_of hc hcn
        show SndV env n0 P M h w (mks2 (cx.ty.get e) e l c) _
        cases ht : cx.ty.get e with
        | none => exact Snd.bad
        | some ti =>
          have ok := hT e ti ht
          show SndV env n0 P M h w (match ileb 0 l && ileb l c && ileb c 1048576 && Nat.ble ti.bytes 4096 with | true => mks3 ti.zero e ti.size l.toNat c.toNat | false => .bad 28) _
          cases hb : (ileb 0 l && ileb l c && ileb c 1048576 && Nat.ble ti.bytes 4096) with
          | false => exact Snd.bad
          | true =>
            obtain ⟨hb, hb4⟩ := and_true hb
            obtain ⟨hb, hb3⟩ := and_true hb
            obtain ⟨hb1, hb2⟩ := and_true hb
            rw [ileb_eq] at hb1 hb2 hb3
            have q1 : 0 ≤ l := of_decide_eq_true hb1
            have q2 : l ≤ c := of_decide_eq_true hb2
            have q3 : c ≤ 1048576 := of_decide_eq_true hb3
            have q4 : ti.bytes ≤ 4096 := Nat.le_of_ble_eq_true hb4
            show SndV env n0 P M h w (mks3 ti.zero e ti.size l.toNat c.toNat) _
            cases hz : ti.zero with
            | none => exact Snd.bad
            | some z =>
              show SndV env n0 P M h w (match Nat.beq (cellsV z).length ti.size with | true => vnew e ti.size (RL.rep c.toNat (cellsV z)) true (sliceTo l.toNat c.toNat) | false => .bad 29) _
              cases hzn : Nat.beq (cellsV z).length ti.size with
              | false => exact Snd.bad
              | true =>
                have q5 : (cellsV z).length = ti.size := Nat.eq_of_beq_eq_true hzn
                obtain ⟨x, x1, x2⟩ := ok.run_zero (w := w) hz
                have hxs : x.cells.size = ti.size := by have := (x2 env M).cells.length; rw [← q5, this]; simp
                obtain ⟨i, i1, i2, i3⟩ := ok.run_info (w := w)
                have hmul : (ti.bytes : Int) * c ≤ 4294967296 := by
                  have : (ti.bytes : Int) * c ≤ 4096 * 1048576 := Int.mul_le_mul (by omega) q3 (by omega) (by omega)
                  omega
                have hmul0 : (0 : Int) ≤ (ti.bytes : Int) * c := Int.mul_nonneg (by omega) (by omega)
                refine row_slice r (rep_zeros (x2 env M) c.toNat) #[] e e ti.size true (fun _ => rfl) l.toNat c.toNat c.toNat (by omega) (Nat.le_refl _) (by simp [zeroCells, hxs]) rfl (Below.refl _ _) ?_
                have hwl : IntKind.i64.wrap l = l := wrap64_id q1 (by omega)
                have hwc : IntKind.i64.wrap c = c := wrap64_id (by omega) q3
                simp only [Instr.makeSlice, Sem.run_bind, run_und hu, Result.andThen_ok, asInt, asIntOf, pure_bind, i1, hwl, hwc, i3]
                rw [if_neg (by simp; omega)]
                simp only [Sem.run_bind, run_askRoom, Result.andThen_ok, ok.run_size]
                by_cases h0 : c.toNat * ti.size = 0
                · rw [if_pos h0]
                  have hz0 : (Array.range (c.toNat * ti.size)).map (fun i => (#[] : Array Value)[i % (#[] : Array Value).size]!) = zeroCells x.cells c.toNat := by
                    simp [zeroCells, hxs, h0]
                  simp only [Sem.run_pure, Result.andThen_ok, hz0, newRow, Sem.run_bind, run_newObj]
                  simp
                · rw [if_neg h0]
                  have hz0 : (Array.range (c.toNat * ti.size)).map (fun i => x.cells[i % x.cells.size]!) = zeroCells x.cells c.toNat := by
                    simp only [zeroCells, hxs]
                  simp only [Sem.run_bind, x1, Result.andThen_ok, Sem.run_pure, hz0, newRow, run_newObj]
                  simp
  | _ => exact Snd.bad

/-! ### cuts -/
theorem bound_run {x : Value} {i : Int} {y : Nat} (k : IntKind) (hx : x = .int k i) (h0 : 0 ≤ i) (h1 : i ≤ y) (code : BoundsCode) : (Instr.sliceBound x y code).run P w = .ok i.toNat w := by
  subst hx
  simp only [Instr.sliceBound, asIntOf, pure_bind]
  rw [if_pos ⟨h0, h1⟩]
  rfl
theorem optN_of {v : Option V} {x : Option Value} (hv : match v, x with | none, none => True | some v, some x => VR env M v x | _, _ => False) {d : Nat} {i : Int} (e : optN v d = some i) :
    (x = none ∧ i = d) ∨ (∃ k, x = some (.int k i)) := by
  match v, x, hv with
  | none, none, _ => left; cases e; exact ⟨rfl, rfl⟩
  | some v, some x, hv => right; obtain ⟨k, rfl⟩ := asN_of hv e; exact ⟨k, rfl⟩
abbrev OptR (env : Nat → Int) (M : Mp) (v : Option V) (x : Option Value) : Prop := match v, x with | none, none => True | some v, some x => VR env M v x | _, _ => False
/-- The bounds of a cut. -/
theorem bounds_run {lo hi mx : Option V} {lo' hi' mx' : Option Value} (hlo : OptR env M lo lo') (hhi : OptR env M hi hi') (hmx : OptR env M mx mx') {len cap c' : Nat} (isS : Bool) {l h m : Int}
    (e1 : optN lo 0 = some l) (e2 : optN hi len = some h) (e3 : optN mx cap = some m) (q1 : 0 ≤ l) (q2 : l ≤ h) (q3 : h ≤ m) (q4 : m ≤ cap) (hc : cap ≤ c') (hS : mx.isSome = true → hi.isSome = true) (w : World) :
    ∃ m' : Nat, (Instr.sliceBounds isS len c' lo' hi' mx').run P w = .ok (l.toNat, h.toNat, m') w ∧ m.toNat ≤ m' ∧ m' ≤ c' := by
  rcases optN_of hlo e1 with ⟨rfl, hl⟩ | ⟨k1, rfl⟩ <;> rcases optN_of hhi e2 with ⟨rfl, hh⟩ | ⟨k2, rfl⟩ <;> rcases optN_of hmx e3 with ⟨rfl, hm⟩ | ⟨k3, rfl⟩
  · refine ⟨c', ?_, by omega, Nat.le_refl _⟩
    simp [Instr.sliceBounds, hl, hh]
  · have : hi = none := by cases hi; rfl; exact hhi.elim
    have : mx.isSome = true := by cases mx; exact hmx.elim; rfl
    simp_all
  · refine ⟨c', ?_, by omega, Nat.le_refl _⟩
    have b2 := fun code => bound_run (P := P) (w := w) (y := c') k2 rfl (by omega : (0 : Int) ≤ h) (by omega) code
    simp [Instr.sliceBounds, b2, hl]
  · refine ⟨m.toNat, ?_, Nat.le_refl _, by omega⟩
    have b3 := fun code => bound_run (P := P) (w := w) (y := c') k3 rfl (by omega : (0 : Int) ≤ m) (by omega) code
    have b2 := fun code => bound_run (P := P) (w := w) (y := m.toNat) k2 rfl (by omega : (0 : Int) ≤ h) (by omega) code
    simp [Instr.sliceBounds, b2, b3, hl]
  · refine ⟨c', ?_, by omega, Nat.le_refl _⟩
    have b1 := fun code => bound_run (P := P) (w := w) (y := len) k1 rfl q1 (by omega) code
    simp [Instr.sliceBounds, b1, hh]
  · have : hi = none := by cases hi; rfl; exact hhi.elim
    have : mx.isSome = true := by cases mx; exact hmx.elim; rfl
    simp_all
  · refine ⟨c', ?_, by omega, Nat.le_refl _⟩
    have b2 := fun code => bound_run (P := P) (w := w) (y := c') k2 rfl (by omega : (0 : Int) ≤ h) (by omega) code
    have b1 := fun code => bound_run (P := P) (w := w) (y := h.toNat) k1 rfl q1 (by omega) code
    simp [Instr.sliceBounds, b1, b2]
  · refine ⟨m.toNat, ?_, Nat.le_refl _, by omega⟩
    have b3 := fun code => bound_run (P := P) (w := w) (y := c') k3 rfl (by omega : (0 : Int) ≤ m) (by omega) code
    have b2 := fun code => bound_run (P := P) (w := w) (y := m.toNat) k2 rfl (by omega : (0 : Int) ≤ h) (by omega) code
    have b1 := fun code => bound_run (P := P) (w := w) (y := h.toNat) k1 rfl q1 (by omega) code
    simp [Instr.sliceBounds, b1, b2, b3]
theorem cutL_snd (r : Rel env n0 M h w) {a : Option (Nat × Nat)} {len cap : Nat} {x : Value} (hx : VR env M (.sl a len cap) x) {t e : TypeId} (hu : P.underlying t = some (.slice e)) {n : Nat} (hn : ∀ w, (sizeOf e).run P w = .ok n w)
    {lo hi mx : Option V} {lo' hi' mx' : Option Value} (hlo : OptR env M lo lo') (hhi : OptR env M hi hi') (hmx : OptR env M mx mx') (hS : mx.isSome = true → hi.isSome = true) :
    SndV env n0 P M h w (cutL a cap n (optN lo 0) (optN hi len) (optN mx cap)) (Instr.slice t x lo' hi' mx') := by
  cases e1 : optN lo 0 with
  | none => exact Snd.bad
  | some l =>
  cases e2 : optN hi len with
  | none => exact Snd.bad
  | some hh =>
  cases e3 : optN mx cap with
  | none => exact Snd.bad
  | some m =>
    show SndV env n0 P M h w (match ileb 0 l && ileb l hh && ileb hh m && upto m cap with | true => cutA a l.toNat n (Nat.sub hh.toNat l.toNat) (Nat.sub m.toNat l.toNat) | false => .bad 34) _
    cases hb : (ileb 0 l && ileb l hh && ileb hh m && upto m cap) with
    | false => exact Snd.bad
    | true =>
      obtain ⟨hb, hb4⟩ := and_true hb
      obtain ⟨hb, hb3⟩ := and_true hb
      obtain ⟨hb1, hb2⟩ := and_true hb
      rw [ileb_eq] at hb1 hb2 hb3
      have q1 : 0 ≤ l := of_decide_eq_true hb1
      have q2 : l ≤ hh := of_decide_eq_true hb2
      have q3 : hh ≤ m := of_decide_eq_true hb3
      have q4 := ((upto_eq m cap).1 hb4).2
      cases hx with
      | sn _ _ =>
        obtain ⟨m', hbd, p1, p2⟩ := bounds_run (P := P) hlo hhi hmx true (cap := cap) (c' := cap) e1 e2 e3 q1 q2 q3 q4 (Nat.le_refl _) hS w
        have hmm : m' = m.toNat ∨ mx' = none := by
          rcases optN_of hmx e3 with ⟨rfl, _⟩ | ⟨k3, rfl⟩
          · exact .inr rfl
          · left
            have b3 := fun code => bound_run (P := P) (w := w) (y := cap) k3 rfl (by omega : (0 : Int) ≤ m) (by omega) code
            rcases optN_of hhi e2 with ⟨rfl, _⟩ | ⟨k2, rfl⟩ <;> rcases optN_of hlo e1 with ⟨rfl, _⟩ | ⟨k1, rfl⟩ <;> simp [Instr.sliceBounds, b3] at hbd
            · have b2 := fun code => bound_run (P := P) (w := w) (y := m.toNat) k2 rfl (by omega : (0 : Int) ≤ hh) (by omega) code
              simp [b2] at hbd; omega
            · have b2 := fun code => bound_run (P := P) (w := w) (y := m.toNat) k2 rfl (by omega : (0 : Int) ≤ hh) (by omega) code
              have b1 := fun code => bound_run (P := P) (w := w) (y := hh.toNat) k1 rfl q1 (by omega) code
              simp [b2, b1] at hbd; omega
        have hm2 : m' = m.toNat := by
          rcases hmm with e | e
          · exact e
          · subst e
            rcases optN_of hmx e3 with ⟨_, hm⟩ | ⟨k3, hk⟩
            · omega
            · cases hk
        subst hm2
        refine Snd.ret r ?_ (VR.sn _ _)
        simp only [Instr.slice, Sem.run_bind, run_und hu, Result.andThen_ok, hbd, hn, Sem.run_pure]
        simp
      | sl b o _ _ c' pl a' hM h1 h2 h3 h4 =>
        obtain ⟨m', hbd, p1, p2⟩ := bounds_run (P := P) hlo hhi hmx true (cap := cap) (c' := c') e1 e2 e3 q1 q2 q3 q4 h1 hS w
        have hrun : (Instr.slice t (.slice (some a') len c') lo' hi' mx').run P w = .ok (.slice (some (if m' = l.toNat then a' else a'.add (l.toNat * n))) (hh.toNat - l.toNat) (m' - l.toNat)) w := by
          simp only [Instr.slice, Sem.run_bind, run_und hu, Result.andThen_ok, hbd, hn, Sem.run_pure]
          congr 2
          split <;> rfl
        show SndV env n0 P M h w (match Nat.beq l.toNat 0 with | true => .ret (.sl (some (b, o)) (Nat.sub hh.toNat l.toNat) (Nat.sub m.toNat l.toNat)) | false => .info b fun es _ _ => match Nat.beq n es with
          | true => .ret (.sl (some (b, Nat.add o (Nat.mul l.toNat n))) (Nat.sub hh.toNat l.toNat) (Nat.sub m.toNat l.toNat)) | false => .bad 34) _
        cases hl0 : Nat.beq l.toNat 0 with
        | true =>
          have hl0 : l.toNat = 0 := Nat.eq_of_beq_eq_true hl0
          have hle : m' * pl.es ≤ c' * pl.es := Nat.mul_le_mul_right _ p2
          refine Snd.ret r hrun ?_
          refine VR.sl b o (hh.toNat - l.toNat) (m.toNat - l.toNat) (m' - l.toNat) pl _ hM (by omega) (by rw [hl0, Nat.sub_zero]; omega) ?_ (by omega)
          rcases h3 with e | e
          · left
            split
            · exact e
            · rw [hl0, Nat.zero_mul]; exact e
          · right; omega
        | false =>
          intro nx lg a h' nx' lg' hnx er
          obtain ⟨el, es, ex, cs, g1, g2⟩ := run_info' er
          cases hes : Nat.beq n es with
          | false => rw [hes] at g2; exact (run_bad g2).elim
          | true =>
            rw [hes] at g2
            obtain ⟨e4, e5⟩ := run_ret g2
            cases e5; subst e4
            have hnes : n = es := Nat.eq_of_beq_eq_true hes
            obtain ⟨pl', c, el', fz, m1, m2, m3, m4, m5⟩ := r.live g1
            rw [hM] at m1; cases m1
            refine ⟨M, w, _, hrun, M.le_refl, r, ?_, Below.refl _ _, hnx⟩
            have hlm : l.toNat ≤ m' := by omega
            have hbound : l.toNat * n + (m' - l.toNat) * pl.es ≤ c' * pl.es := by
              rw [hnes, ← m2, ← Nat.add_mul]
              exact Nat.mul_le_mul_right _ (by omega)
            refine VR.sl b (o + l.toNat * n) (hh.toNat - l.toNat) (m.toNat - l.toNat) (m' - l.toNat) pl _ hM (by omega) (by omega) ?_ (by omega)
            by_cases em : m' = l.toNat
            · right; omega
            · left
              rw [if_neg em]
              rcases h3 with e | e
              · rw [e, add_eq, Nat.add_assoc]
              · omega
theorem cutS_snd (r : Rel env n0 M h w) {q : RL Nat} {x : Value} (hx : VR env M (.s q) x) {t : TypeId} (hu : P.underlying t = some .string)
    {lo hi : Option V} {lo' hi' : Option Value} (hlo : OptR env M lo lo') (hhi : OptR env M hi hi') :
    SndV env n0 P M h w (cutS (optN lo 0) (optN hi q.len) q) (Instr.slice t x lo' hi' none) := by
  cases hx with
  | s _ s hs hok =>
    have hlen : q.len = s.size := by
      rw [RL.len_eq]
      have := congrArg List.length hs
      simp [bytesOf] at this
      exact this.symm
    cases e1 : optN lo 0 with
    | none => exact Snd.bad
    | some l =>
    cases e2 : optN hi q.len with
    | none => exact Snd.bad
    | some hh =>
      show SndV env n0 P M h w (match ileb 0 l && ileb l hh && upto hh q.len with | true => .ret (.s ((q.drop l.toNat).take (hh.toNat - l.toNat))) | false => .bad 32) _
      cases hb : (ileb 0 l && ileb l hh && upto hh q.len) with
      | false => exact Snd.bad
      | true =>
        obtain ⟨hb, hb4⟩ := and_true hb
        obtain ⟨hb1, hb2⟩ := and_true hb
        rw [ileb_eq] at hb1 hb2
        have q1 : 0 ≤ l := of_decide_eq_true hb1
        have q2 : l ≤ hh := of_decide_eq_true hb2
        have q4 := ((upto_eq hh q.len).1 hb4).2
        have e2' : optN hi s.size = some hh := by rw [← hlen]; exact e2
        obtain ⟨m', hbd, p1, p2⟩ := bounds_run (P := P) (env := env) (M := M) (mx := none) (mx' := none) hlo hhi trivial false (len := s.size) (cap := q.len) (c' := s.size) e1 e2' rfl q1 q2 q4 (Int.le_refl _) (by omega) (by simp) w
        refine Snd.ret r (x := .string (s.extract l.toNat hh.toNat)) ?_ (VR.s _ _ ?_ ?_)
        · simp only [Instr.slice, Sem.run_bind, run_und hu, Result.andThen_ok]
          rw [if_neg (by simp)]
          simp only [hbd, Sem.run_bind, Sem.run_pure, Result.andThen_ok]
        · simp only [bytesOf, RL.toList_take, RL.toList_drop, List.map_take, List.map_drop]
          rw [show (s.extract l.toNat hh.toNat).data.toList = (s.data.toList.drop l.toNat).take (hh.toNat - l.toNat) by
            simp [ByteArray.data_extract, List.extract_eq_take_drop]]
          rw [hs]
          rfl
        · intro n hn
          rw [RL.toList_take, RL.toList_drop] at hn
          exact hok n (List.mem_of_mem_drop (List.mem_of_mem_take hn))
theorem slice_snd (hT : TabOk P cx) (r : Rel env n0 M h w) {v : V} {x : Value} (hx : VR env M v x) (t : TypeId)
    {lo hi mx : Option V} {lo' hi' mx' : Option Value} (hlo : OptR env M lo lo') (hhi : OptR env M hi hi') (hmx : OptR env M mx mx') (hS : mx.isSome = true → hi.isSome = true) :
    SndV env n0 P M h w (vslice (tk cx t) cx v lo hi mx) (Instr.sliceAt t x lo' hi' mx') := by
  have hk := tk_ok hT t
  cases hkk : tk cx t with
  | slice e =>
    rw [hkk] at hk
    have hu : P.underlying t = some (.slice e) := hk
    have hat : ∀ w, (Instr.sliceAt t x lo' hi' mx').run P w = (Instr.slice t x lo' hi' mx').run P w := by
      intro w; simp only [Instr.sliceAt, Sem.run_bind, run_und hu, Result.andThen_ok]
    cases v with
    | sl a len cap =>
      show SndV env n0 P M h w (match tsize cx e with | some n => cutL a cap n (optN lo 0) (optN hi len) (optN mx cap) | none => .bad 35) _
      cases hz : tsize cx e with
      | none => exact Snd.bad
      | some n =>
        have := cutL_snd (P := P) r hx hu (fun w => tsize_ok hT hz w) hlo hhi hmx hS
        intro nx lg a h' nx' lg' hn er
        obtain ⟨M', w', y, y1, y2⟩ := this nx lg a h' nx' lg' hn er
        exact ⟨M', w', y, by rw [hat]; exact y1, y2⟩
    | _ => exact Snd.bad
  | string =>
    rw [hkk] at hk
    have hu : P.underlying t = some .string := hk
    have hat : ∀ w, (Instr.sliceAt t x lo' hi' mx').run P w = (Instr.slice t x lo' hi' mx').run P w := by
      intro w; simp only [Instr.sliceAt, Sem.run_bind, run_und hu, Result.andThen_ok]
    cases v with
    | s q =>
      cases mx with
      | some m => exact Snd.bad
      | none =>
        cases mx' with
        | some m => exact hmx.elim
        | none =>
          have := cutS_snd (P := P) r hx hu hlo hhi
          intro nx lg a h' nx' lg' hn er
          obtain ⟨M', w', y, y1, y2⟩ := this nx lg a h' nx' lg' hn er
          exact ⟨M', w', y, by rw [hat]; exact y1, y2⟩
    | _ => exact Snd.bad
  | _ => exact Snd.bad
end ops
end Go.Vm
namespace Go.Vm
open Go.RowKit
open Go.Builtin (zeroCells nextslicecap growBy lenOf firstCells)
section ops
variable {env : Nat → Int} {n0 : Old} {P : Program} {M : Mp} {h : Tr Ob} {w : World} {cx : Cx}

theorem growBy_le (newLen : Nat) : ∀ (r c : Nat), growBy newLen r c + 768 ≤ 2 ^ r * (c + 768)
  | 0, c => by simp [growBy]
  | r + 1, c => by
    simp only [growBy]
    split
    · have : 1 ≤ 2 ^ (r + 1) := Nat.one_le_two_pow
      exact Nat.le_mul_of_pos_left _ (by omega)
    · have := growBy_le newLen r (c + (c + 768) / 4)
      have h2 : c + (c + 768) / 4 + 768 ≤ 2 * (c + 768) := by omega
      calc _ ≤ 2 ^ r * (c + (c + 768) / 4 + 768) := this
        _ ≤ 2 ^ r * (2 * (c + 768)) := Nat.mul_le_mul_left _ h2
        _ = 2 ^ (r + 1) * (c + 768) := by rw [Nat.pow_succ, Nat.mul_assoc]
theorem nextcap_le {need old : Nat} (h : old < need) (hn : need ≤ 1048576) : nextslicecap need old ≤ 33554432 := by
  unfold nextslicecap
  split
  · omega
  · split
    · omega
    · have := growBy_le need 4 old
      have e : 2 ^ 4 = 16 := rfl
      rw [e] at this
      omega
theorem small_bytes {need old bytes : Nat} (h : old < need) (hn : need ≤ 1048576) (hb : bytes ≤ 4096) : ¬ (nextslicecap need old * bytes > 2 ^ 48) := by
  have := Nat.mul_le_mul (nextcap_le h hn) hb
  omega

/-- The world behind a draw of a capacity. -/
def drawn1 (w : World) : World := { w with drawn := w.drawn + 1 }
theorem drawn1_below (w : World) (n : Nat) : Below n w (drawn1 w) := ⟨rfl, rfl, rfl, Nat.le_refl _, fun _ _ => rfl⟩
def newCapOf (w : World) (need old : Nat) (e : TypeId) : Nat := (Question.appendCap need old e).cut (w.tape w.drawn (.appendCap need old e))
theorem newCap_ge (w : World) (need old : Nat) (e : TypeId) : need ≤ newCapOf w need old e := by
  show need ≤ need + _
  omega

section core
variable {st xt e : TypeId} {tys : Array TypeId} {ty : TypeId} {base : Option Addr} {len cap m : Nat} {x z : Value} {xs olds : List Value} {i : TypeInfo}
/-- What the model's append does where there is room, and where not: of a slice or a string. -/
theorem append_room (hu : P.underlying st = some (.slice e)) (hi : P.info? e = some i) (h0 : tys[0]? = some st) (h1 : tys[1]? = some xt) {d : TypeDesc} (hd : P.underlying xt = some d) (hnd : ∀ k, d ≠ .int k)
    (hl : lenOf x = pure m) (hx : (firstCells i.size m x).run P w = .ok xs.toArray w) (hroom : len + m ≤ cap) :
    (Builtin.append_ tys ty #[.slice base len cap, x]).run P w = ((match base with | some a => storeCells (a.add (len * i.size)) xs | none => pure () : Sem Unit).run P w).andThen fun _ w' => .ok (.slice base (len + m) cap) w' := by
  unfold Builtin.append_
  simp only [h0, Sem.run_bind, List.getElem?_toArray, List.getElem?_cons_zero, List.getElem?_cons_succ, run_und hu, Result.andThen_ok, sizeOf, typeInfo, run_program, hi, Sem.run_pure, h1, run_und hd]
  rw [if_neg (by simp), hl]
  simp only [pure_bind]
  rw [if_pos hroom]
  cases base <;> simp [hx]
theorem append_grow (hu : P.underlying st = some (.slice e)) (hi : P.info? e = some i) (hz : i.zero = some z) (h0 : tys[0]? = some st) (h1 : tys[1]? = some xt) {d : TypeDesc} (hd : P.underlying xt = some d) (hnd : ∀ k, d ≠ .int k)
    (hl : lenOf x = pure m) (hx : (firstCells i.size m x).run P (drawn1 w) = .ok xs.toArray (drawn1 w)) (ho : (firstCells i.size len (.slice base len cap)).run P (drawn1 w) = .ok olds.toArray (drawn1 w))
    (hgrow : cap < len + m) (hsmall : len + m ≤ 1048576) (hby : i.bytes ≤ 4096) :
    (Builtin.append_ tys ty #[.slice base len cap, x]).run P w = .ok (.slice (some ⟨w.heap.size, 0, none⟩) (len + m) (newCapOf w (len + m) cap e))
      { drawn1 w with heap := w.heap.push (.cells (olds.toArray ++ xs.toArray ++ zeroCells z.cells (newCapOf w (len + m) cap e - (len + m))) e (0, 0)) } := by
  have hb := small_bytes hgrow hsmall hby
  have hn : ¬ (len + m ≤ cap) := by omega
  have hmax : ∀ q : Prop, ¬ (((len + m : Nat) : Int) > IntKind.i64.max ∧ q) := by
    intro q hc
    have : IntKind.i64.max = 9223372036854775807 := by decide
    omega
  have hch : (choose (.appendCap (len + m) cap e)).run P w = .ok (newCapOf w (len + m) cap e) (drawn1 w) := by
    rw [run_choose]; rfl
  unfold Builtin.append_
  simp only [h0, Sem.run_bind, List.getElem?_toArray, List.getElem?_cons_zero, List.getElem?_cons_succ, run_und hu, Result.andThen_ok, sizeOf, typeInfo, run_program, hi, Sem.run_pure, h1, run_und hd]
  rw [if_neg (by simp), hl]
  simp only [pure_bind]
  rw [if_neg hn]
  simp only [Sem.run_bind, run_program, Result.andThen_ok, hi, Sem.run_pure]
  rw [if_neg (hmax _)]
  simp only [Sem.run_bind, run_program, Result.andThen_ok, hi, Sem.run_pure]
  rw [if_neg hb]
  simp only [Sem.run_bind, hch, Result.andThen_ok, run_program, hi, Sem.run_pure, run_askRoom, ho, Bool.not_false, if_true, hx, zeroValue, typeInfo, hz, newRow, run_newObj]
  rfl
/-- And of so many zero values ('make' within an append). -/
theorem appendz_room (hu : P.underlying st = some (.slice e)) (hi : P.info? e = some i) (hz : i.zero = some z) (h0 : tys[0]? = some st) (h1 : tys[1]? = some xt) {k j : IntKind} (hd : P.underlying xt = some (.int k))
    (hm : m ≤ 1048576) (hby : i.bytes ≤ 4096) (hzs : z.cells.size = i.size) (hroom : len + m ≤ cap) :
    (Builtin.append_ tys ty #[.slice base len cap, .int j m]).run P w = ((match base with | some a => storeCells (a.add (len * i.size)) (zeroCells z.cells m).toList | none => pure () : Sem Unit).run P w).andThen fun _ w' => .ok (.slice base (len + m) cap) w' := by
  have hw : IntKind.i64.wrap (m : Int) = m := wrap64_id (by omega) (by omega)
  have hsm : ¬ ((m : Int) * i.bytes > 2 ^ 48) := by
    have : m * i.bytes ≤ 1048576 * 4096 := Nat.mul_le_mul hm hby
    have h2 : ((m * i.bytes : Nat) : Int) ≤ ((1048576 * 4096 : Nat) : Int) := by exact_mod_cast this
    simp only [Int.natCast_mul] at h2
    omega
  have happ : ∀ w, (if m * i.size = 0 then pure #[] else (do let __do_lift ← zeroValue e; pure (zeroCells __do_lift.cells m)) : Sem (Array Value)).run P w = .ok (zeroCells z.cells m) w := by
    intro w
    by_cases h0 : m * i.size = 0
    · rw [if_pos h0]
      have : zeroCells z.cells m = #[] := by simp [zeroCells, hzs, h0]
      rw [this]; rfl
    · rw [if_neg h0]
      simp only [Sem.run_bind, zeroValue, typeInfo, run_program, Result.andThen_ok, hi, Sem.run_pure, hz]
  unfold Builtin.append_
  simp only [h0, Sem.run_bind, List.getElem?_toArray, List.getElem?_cons_zero, List.getElem?_cons_succ, run_und hu, Result.andThen_ok, sizeOf, typeInfo, run_program, hi, Sem.run_pure, h1, run_und hd]
  rw [if_pos trivial]
  simp only [asInt, asIntOf, pure_bind, hw]
  rw [if_neg (by omega)]
  simp only [Sem.run_bind, run_program, Result.andThen_ok, hi, Sem.run_pure]
  rw [if_neg hsm]
  simp only [Int.toNat_natCast]
  rw [if_pos hroom]
  simp only [Bool.not_true, Bool.false_eq_true, if_false, Sem.run_bind, happ, Result.andThen_ok]
  cases base <;> simp
theorem appendz_grow (hu : P.underlying st = some (.slice e)) (hi : P.info? e = some i) (hz : i.zero = some z) (h0 : tys[0]? = some st) (h1 : tys[1]? = some xt) {k j : IntKind} (hd : P.underlying xt = some (.int k))
    (hm : m ≤ 1048576) (hby : i.bytes ≤ 4096) (hzs : z.cells.size = i.size) (ho : (firstCells i.size len (.slice base len cap)).run P (drawn1 w) = .ok olds.toArray (drawn1 w))
    (hgrow : cap < len + m) (hsmall : len + m ≤ 1048576) :
    (Builtin.append_ tys ty #[.slice base len cap, .int j m]).run P w = .ok (.slice (some ⟨w.heap.size, 0, none⟩) (len + m) (newCapOf w (len + m) cap e))
      { drawn1 w with heap := w.heap.push (.cells (olds.toArray ++ zeroCells z.cells m ++ zeroCells z.cells (newCapOf w (len + m) cap e - (len + m))) e (0, 0)) } := by
  have hw : IntKind.i64.wrap (m : Int) = m := wrap64_id (by omega) (by omega)
  have hsm : ¬ ((m : Int) * i.bytes > 2 ^ 48) := by
    have : m * i.bytes ≤ 1048576 * 4096 := Nat.mul_le_mul hm hby
    have h2 : ((m * i.bytes : Nat) : Int) ≤ ((1048576 * 4096 : Nat) : Int) := by exact_mod_cast this
    simp only [Int.natCast_mul] at h2
    omega
  have hb := small_bytes hgrow hsmall hby
  have hn : ¬ (len + m ≤ cap) := by omega
  have hmax : ∀ q : Prop, ¬ (((len + m : Nat) : Int) > IntKind.i64.max ∧ q) := by
    intro q hc
    have : IntKind.i64.max = 9223372036854775807 := by decide
    omega
  have hch : (choose (.appendCap (len + m) cap e)).run P w = .ok (newCapOf w (len + m) cap e) (drawn1 w) := by
    rw [run_choose]; rfl
  have happ : ∀ w, (if m * i.size = 0 then pure #[] else (do let __do_lift ← zeroValue e; pure (zeroCells __do_lift.cells m)) : Sem (Array Value)).run P w = .ok (zeroCells z.cells m) w := by
    intro w
    by_cases h0 : m * i.size = 0
    · rw [if_pos h0]
      have : zeroCells z.cells m = #[] := by simp [zeroCells, hzs, h0]
      rw [this]; rfl
    · rw [if_neg h0]
      simp only [Sem.run_bind, zeroValue, typeInfo, run_program, Result.andThen_ok, hi, Sem.run_pure, hz]
  unfold Builtin.append_
  simp only [h0, Sem.run_bind, List.getElem?_toArray, List.getElem?_cons_zero, List.getElem?_cons_succ, run_und hu, Result.andThen_ok, sizeOf, typeInfo, run_program, hi, Sem.run_pure, h1, run_und hd]
  rw [if_pos trivial]
  simp only [asInt, asIntOf, pure_bind, hw]
  rw [if_neg (by omega)]
  simp only [Sem.run_bind, run_program, Result.andThen_ok, hi, Sem.run_pure]
  rw [if_neg hsm]
  simp only [Int.toNat_natCast]
  rw [if_neg hn]
  simp only [Sem.run_bind, run_program, Result.andThen_ok, hi, Sem.run_pure]
  rw [if_neg (hmax _)]
  simp only [Sem.run_bind, run_program, Result.andThen_ok, hi, Sem.run_pure]
  rw [if_neg hb]
  simp only [Sem.run_bind, hch, Result.andThen_ok, run_program, hi, Sem.run_pure, run_askRoom, ho, Bool.not_true, Bool.false_eq_true, if_false, happ]
  simp only [zeroValue, typeInfo, Sem.run_bind, run_program, Result.andThen_ok, hi, Sem.run_pure, hz, newRow, run_newObj]
  rfl
end core

theorem VR.sl_inv {a : Option (Nat × Nat)} {l c : Nat} {x : Value} (hv : VR env M (.sl a l c) x) : ∃ b' c', x = .slice b' l c' ∧ c ≤ c' ∧ (a = none → b' = none ∧ c' = c) := by
  cases hv with
  | sn l c => exact ⟨none, c, rfl, Nat.le_refl _, fun _ => ⟨rfl, rfl⟩⟩
  | sl b o l c c' pl a h1 h2 h3 h4 h5 => exact ⟨some a, c', rfl, h2, fun e => by cases e⟩
theorem ones_of {l : List V} {xs : List Value} (hx : VRs env M l xs) (ho : ∀ v ∈ l, oneC v = true) : ∀ x ∈ xs, oneCell x := by
  intro x hx'
  obtain ⟨i, hi⟩ := List.getElem?_of_mem hx'
  have hl := hx.length
  have hv : l[i]? = some (l[i]'(by have := (List.getElem?_eq_some_iff.1 hi).1; omega)) := List.getElem?_eq_getElem _
  obtain ⟨y, y1, y2⟩ := hx.get i _ hv
  rw [hi] at y1; cases y1
  exact one_of y2 (ho _ (List.getElem_mem _))
/-- An append: what the VM does and what the model does, told by its two arms. -/
theorem appGo_snd (r : Rel env n0 M h w) {base : Option (Nat × Nat)} {len cap : Nat} {s' : Value} (hs : VR env M (.sl base len cap) s') {n m : Nat} {new : RL V} {xs : List Value} (hx : VRs env M new.toList xs) (hxl : xs.length = m * n)
    {e e' : TypeId} {F : Sem Value}
    (R : ∀ (b' : Option Addr) (c' : Nat), s' = .slice b' len c' → len + m ≤ c' → F.run P w = ((match b' with | some a => storeCells (a.add (len * n)) xs | none => pure () : Sem Unit).run P w).andThen fun _ w' => .ok (.slice b' (len + m) c') w')
    (G : ∀ (b' : Option Addr) (c' : Nat) (olds : List Value), s' = .slice b' len c' → c' < len + m → len + m ≤ 1048576 → (firstCells n len (.slice b' len c')).run P (drawn1 w) = .ok olds.toArray (drawn1 w) →
      ∃ (newCap : Nat) (rest : Array Value), len + m ≤ newCap ∧ rest.size = (newCap - (len + m)) * n ∧ F.run P w = .ok (.slice (some ⟨w.heap.size, 0, none⟩) (len + m) newCap) { drawn1 w with heap := w.heap.push (.cells (olds.toArray ++ xs.toArray ++ rest) e' (0, 0)) }) :
    SndV env n0 P M h w (appGo e base len cap n m new) F := by
  unfold appGo
  cases hle : Nat.ble (Nat.add len m) cap with
  | true =>
    have hle : len + m ≤ cap := Nat.le_of_ble_eq_true hle
    cases hs with
    | sn _ _ =>
      refine Snd.ret r ?_ (VR.sn _ _)
      rw [R none cap rfl hle]
      rfl
    | sl b o _ _ c' pl a' hM h1 h2 h3 h4 =>
      have hr := R (some a') c' rfl (by omega)
      intro nx lg a h' nx' lg' hn er
      obtain ⟨el, es, ex, cs, g1, g2, g3, g4, g5⟩ := run_sets er
      obtain ⟨e4, e5⟩ := run_ret g5
      cases e5; subst e4
      obtain ⟨w', s1, s2, s3⟩ := sets_write (P := P) r g1 hM g2 g3 g4 hx
      refine ⟨M, w', _, ?_, M.le_refl, s2, VR.sl b o (len + m) cap c' pl a' hM h1 h2 h3 (by omega), s3, hn⟩
      rw [hr]
      have : (storeCells (a'.add (len * n)) xs).run P w = .ok () w' := by
        rcases h3 with e0 | e0
        · rw [e0, add_eq]
          have : pl.off + o + len * n = pl.off + (o + len * n) := by omega
          rw [this]; exact s1
        · have hxs : xs = [] := by
            have : m = 0 := by omega
            subst this
            rw [Nat.zero_mul] at hxl
            exact List.length_eq_zero_iff.1 hxl
          subst hxs
          have e6 : w' = w := by
            have := s1
            simp only [storeCells] at this
            cases this; rfl
          rw [e6]; rfl
      simp only [this, Result.andThen_ok]
  | false =>
    cases hsm : Nat.ble (Nat.add len m) 1048576 with
    | false => exact Snd.bad
    | true =>
      have hsm : len + m ≤ 1048576 := Nat.le_of_ble_eq_true hsm
      have hgr : cap < len + m := by
        rw [RL.ble_dec] at hle
        have := of_decide_eq_false hle
        exact Nat.lt_of_not_le this
      cases hs with
      | sn _ _ =>
        show SndV env n0 P M h w (match Nat.beq len 0 with | true => appMk e n m new | false => .bad 37) F
        cases hl0 : Nat.beq len 0 with
        | false => exact Snd.bad
        | true =>
          have hl0 : len = 0 := Nat.eq_of_beq_eq_true hl0
          subst hl0
          obtain ⟨newCap, rest, p1, p2, p3⟩ := G none cap [] rfl hgr hsm rfl
          rw [Nat.zero_add] at p1 p2 p3
          refine row_slice r hx rest e e' n false (by simp) m m newCap (Nat.le_refl _) p1 ?_ (w1 := drawn1 w) rfl (drawn1_below w n0.n) ?_
          · rw [p2, hxl, ← Nat.add_mul]; exact Nat.mul_le_mul_right _ (by omega)
          · rw [p3]; simp
      | sl b o _ _ c' pl a' hM h1 h2 h3 h4 =>
        intro nx lg a h' nx' lg' hn er
        obtain ⟨el, es, ex, cs, g1, g2, g3⟩ := run_rows er
        obtain ⟨el2, es2, ex2, cs2, k1, k2⟩ := run_info' g3
        rw [g1] at k1; cases k1
        have k2' : (Bool.rec (.bad 38) (appKill b (appMk e n (len + m) (RL.app ((cs.drop o).take (len * n)) new)) (ex && Nat.beq (o + cap * n) cs.toList.length)) ((Nat.beq n es && Nat.ble 1 n) && allOne new) : Pr V).run h nx ((lg.rd b).rd b) = .ok a (.mk h' nx' lg') := k2
        cases hne : ((Nat.beq n es && Nat.ble 1 n) && allOne new) with
        | false => rw [hne] at k2'; exact (run_bad k2').elim
        | true =>
        rw [hne] at k2'
        obtain ⟨hne0, hne3⟩ := and_true hne
        obtain ⟨hne1, hne2⟩ := and_true hne0
        have hnes : n = es := Nat.eq_of_beq_eq_true hne1
        have hn1 : 1 ≤ n := Nat.le_of_ble_eq_true hne2
        obtain ⟨pl', c, el', fz, m1, m2, m3, m4, m5⟩ := r.live g1
        rw [hM] at m1; cases m1
        obtain ⟨olds, o1, o2, o3, o4⟩ := m3.loads (P := P) o (len * n) g2
        have hcat : VRs env M (RL.app ((cs.drop o).take (len * n)) new).toList (olds ++ xs) := by
          rw [RL.toList_app, RL.toList_take, RL.toList_drop]; exact o2.append hx
        have hcl : (olds ++ xs).length = (len + m) * n := by rw [List.length_append, o1, hxl, Nat.add_mul]
        have hold : (firstCells n len (.slice (some a') len c')).run P (drawn1 w) = .ok olds.toArray (drawn1 w) := by
          have hrun : ∀ w1 : World, w1.heap = w.heap → (loadCells ⟨pl.blk, pl.off + o, none⟩ (len * n)).run P w1 = .ok olds.toArray w1 := by
            intro w1 hw1
            have m3' : Row env M w1 pl ex cs c el' fz := ⟨by rw [hw1]; exact m3.heap, m3.size, m3.len, m3.cell, m3.unfz, m3.full⟩
            rw [← o1]
            refine loadCells_run _ olds ?_
            intro j x e
            rw [add_eq, cell_of pl _ m3'.heap]
            exact o4 j x e
          show (loadCells a' (len * n)).run P (drawn1 w) = _
          rcases h3 with e0 | e0
          · rw [e0]; exact hrun _ rfl
          · have hl0 : len = 0 := by omega
            subst hl0
            have : olds = [] := by rw [Nat.zero_mul] at o1; exact List.length_eq_zero_iff.1 o1
            subst this
            rw [Nat.zero_mul]; rfl
        -- the arm that grows
        have grow : c' < len + m → ∀ (h1 : Tr Ob) (lg1 : Lg), Rel env n0 M h1 w → (appMk e n (len + m) (RL.app ((cs.drop o).take (len * n)) new)).run h1 nx lg1 = .ok a (.mk h' nx' lg') →
            ∃ M' w' x, F.run P w = .ok x w' ∧ M.le M' ∧ Rel env n0 M' h' w' ∧ VR env M' a x ∧ Below n0.n w w' ∧ RO ≤ nx' := by
          intro hc h1 lg1 r1 e1
          obtain ⟨newCap, rest, p1, p2, p3⟩ := G (some a') c' olds rfl hc hsm hold
          have := row_slice (P := P) (s := F) r1 hcat rest e e' n false (by simp) (len + m) (len + m) newCap (Nat.le_refl _) p1 (by rw [p2, hcl, ← Nat.add_mul]; exact Nat.mul_le_mul_right _ (by omega)) (w1 := drawn1 w) rfl (drawn1_below w n0.n) (by rw [p3]; simp)
          exact this nx lg1 a h' nx' lg' hn e1
        cases hfull : (ex && Nat.beq (o + cap * n) cs.toList.length) with
        | true =>
          rw [hfull] at k2'
          obtain ⟨f1, f2⟩ := and_true hfull
          have f3 : o + cap * n = cs.toList.length := Nat.eq_of_beq_eq_true f2
          have f4 := m3.full f1
          have hcc : c' ≤ cap := by
            have : c' * n ≤ cap * n := by rw [hnes, ← m2] at f3 ⊢; omega
            exact Nat.le_of_mul_le_mul_right this (by omega)
          exact grow (by omega) h _ r k2'
        | false =>
          rw [hfull] at k2'
          obtain ⟨el3, es3, ex3, cs3, q1, q2, q3⟩ := run_kill k2'
          rw [g1] at q1; cases q1
          have rk := r.kill g1
          by_cases hc : len + m ≤ c'
          · -- the model's row has room: the new row takes it over
            have hr := R (some a') c' rfl hc
            obtain ⟨z1, z2⟩ := run_new q3
            obtain ⟨e4, e5⟩ := run_ret z2
            cases e5; subst e4
            have ha' : a' = ⟨pl.blk, pl.off + o, none⟩ := h3.resolve_right (by omega)
            have hsz := m3.size
            have hmn : (len + m) * n ≤ c' * pl.es := by rw [m2, ← hnes]; exact Nat.mul_le_mul_right _ hc
            have hadd : (len + m) * n = len * n + m * n := Nat.add_mul ..
            have hxo : ∀ x ∈ xs, oneCell x := ones_of hx (allOne_eq _ hne3)
            obtain ⟨w', s1, s2, s3, s4, s5⟩ := storeCells_run (P := P) pl.blk el' fz (pl.off + o + len * n) xs 0 w c m3.heap (by omega) (m3.free (m4 q2).2) hxo
            have hMn := rk.dom nx z1
            refine ⟨M.add nx ⟨pl.blk, pl.off + o, pl.sz, n, false⟩, w', .slice (some a') (len + m) c', ?_, Mp.le_add hMn, ?_, ?_, s5 n0.n r.size (m4 q2).1, by omega⟩
            · rw [hr, ha']
              show ((storeCells ((⟨pl.blk, pl.off + o, none⟩ : Addr).add (len * n)) xs).run P w).andThen _ = _
              rw [add_eq, s1]
              rfl
            · refine rk.take z1 hn hM q2 (by rw [Tr.get_set, if_pos rfl]) ?_ (r.apart b pl _ g1 hM q2 rfl) s4 s3 rfl rfl ?_
              · intro k ob p hk hal hro hMk heq
                rw [Tr.get_set] at hk
                by_cases ek : k = b
                · rw [if_pos ek] at hk; cases hk; cases hal
                · rw [if_neg ek] at hk
                  exact ek (r.inj k b ob _ p pl hk g1 hal rfl hro q2 hMk hM heq)
              · have hlt : (RL.app ((cs.drop o).take (len * n)) new).toList.length = (len + m) * n := by rw [hcat.length, hcl]
                refine OR.live (pl := ⟨pl.blk, pl.off + o, pl.sz, n, false⟩) e false _ (lay c (pl.off + o + len * n + 0) xs) el' fz s2 (by rw [lay_size]; exact hsz) (by show pl.off + o + _ ≤ pl.sz; omega) ?_ (fun _ => by rw [lay_size]; exact m3.unfz (m4 q2).2) (by simp)
                intro i v hv
                have hv2 := (hcat.mono (Mp.le_add hMn (pl := ⟨pl.blk, pl.off + o, pl.sz, n, false⟩))).get i v hv
                obtain ⟨x, x1, x2⟩ := hv2
                refine ⟨x, ?_, x2⟩
                show (lay c (pl.off + o + len * n + 0) xs)[pl.off + o + i]? = some x
                rw [lay_get xs c _ _ (by omega)]
                by_cases hi : i < len * n
                · rw [if_neg (by omega)]
                  rw [List.getElem?_append_left (by omega)] at x1
                  exact o4 i x x1
                · have hi2 : i < (len + m) * n := by rw [← hcl]; exact (List.getElem?_eq_some_iff.1 x1).1
                  rw [if_pos (by omega)]
                  rw [List.getElem?_append_right (by omega)] at x1
                  rw [← x1]; congr 1; omega
            · exact VR.sl nx 0 (len + m) (len + m) c' ⟨pl.blk, pl.off + o, pl.sz, n, false⟩ a' (add_self _ _ _) hc (by show pl.off + o + 0 + c' * n ≤ pl.sz; rw [m2, ← hnes] at h2; omega) (.inl ha') (Nat.le_refl _)
          · exact grow (by omega) _ _ rk q3
end ops
end Go.Vm
namespace Go.Vm
open Go.RowKit
open Go.Builtin (zeroCells nextslicecap growBy lenOf firstCells)
section ops
variable {env : Nat → Int} {n0 : Old} {P : Program} {M : Mp} {h : Tr Ob} {w : World} {cx : Cx}

theorem u8s_toList (r : RL Nat) : (u8s r).toList = r.toList.map fun n => V.i .u8 (.c (.ofNat n)) := by
  induction r with
  | nil => rfl
  | cons x r ih => show RL.toList ((V.i .u8 (.c (.ofNat x.1)), x.2) :: u8s r) = _; rw [RL.toList_cons, RL.toList_cons, ih, List.map_append, List.map_replicate]
theorem bytes_VRs : ∀ (l : List Nat) (bs : List UInt8), bs = l.map UInt8.ofNat → (∀ n ∈ l, n < 256) →
    VRs env M (l.map fun n => V.i .u8 (.c (.ofNat n))) (bs.map fun b => Value.int .u8 b.toNat)
  | [], _, e, _ => by subst e; exact .nil
  | n :: l, _, e, hn => by
    subst e
    refine .cons _ _ _ _ ?_ (bytes_VRs l _ rfl fun k hk => hn k (List.mem_cons_of_mem _ hk))
    have h1 : n < 256 := hn n List.mem_cons_self
    have : (UInt8.ofNat n).toNat = n := by simp; omega
    show VR env M (V.i .u8 (.c (.ofNat n))) (Value.int .u8 ((UInt8.ofNat n).toNat : Nat))
    rw [this]
    exact VR.i .u8 (.c (.ofNat n))
theorem str_VRs {r : RL Nat} {s : ByteArray} (h1 : s.data.toList = bytesOf r) (h2 : okBytes r) : VRs env M (u8s r).toList (s.data.toList.map fun b => Value.int .u8 b.toNat) := by
  rw [u8s_toList]
  exact bytes_VRs _ _ h1 h2
theorem str_size {r : RL Nat} {s : ByteArray} (h1 : s.data.toList = bytesOf r) : s.size = r.toList.length := by
  have : s.data.toList.length = (bytesOf r).length := by rw [h1]
  simp only [bytesOf, List.length_map, Array.length_toList] at this
  exact this
theorem cut_list (s : ByteArray) (n : Nat) : (s.extract 0 n).data.toList = s.data.toList.take n := by
  rw [ByteArray.data_extract]
  simp [List.extract_eq_take_drop]
theorem append_snd (hT : TabOk P cx) (r : Rel env n0 M h w) {sv xv : V} {s' x' : Value} (hs : VR env M sv s') (hx : VR env M xv x') {tys : Array TypeId} {st xt : TypeId} {rest : List TypeId} (hty : tys.toList = st :: xt :: rest) (ty : TypeId) :
    SndV env n0 P M h w (vappend (tk cx st) (tk cx xt) cx sv xv) (Builtin.append_ tys ty #[s', x']) := by
  have h0 : tys[0]? = some st := by rw [← Array.getElem?_toList, hty]; rfl
  have h1 : tys[1]? = some xt := by rw [← Array.getElem?_toList, hty]; rfl
  have hk := tk_ok hT st
  have hkx := tk_ok hT xt
  cases hkk : tk cx st with
  | slice e =>
    rw [hkk] at hk
    have hu : P.underlying st = some (.slice e) := hk
    show SndV env n0 P M h w (appS sv cx (tk cx xt) e xv) _
    cases sv with
    | sl base len cap =>
      show SndV env n0 P M h w (appTI (cx.ty.get e) (tk cx xt) e xv base len cap) _
      cases ht : cx.ty.get e with
      | none => exact Snd.bad
      | some ti =>
        have ok := hT e ti ht
        show SndV env n0 P M h w (match ti.zero with | some z => (match Nat.ble ti.bytes 4096 && Nat.beq (cellsV z).length ti.size with | true => appX xv (tk cx xt) e base len cap ti.size (cellsV z) | false => .bad 40) | none => .bad 40) _
        cases hz : ti.zero with
        | none => exact Snd.bad
        | some z =>
          show SndV env n0 P M h w (match Nat.ble ti.bytes 4096 && Nat.beq (cellsV z).length ti.size with | true => appX xv (tk cx xt) e base len cap ti.size (cellsV z) | false => .bad 40) _
          cases hb : (Nat.ble ti.bytes 4096 && Nat.beq (cellsV z).length ti.size) with
          | false => exact Snd.bad
          | true =>
            obtain ⟨hb1, hb2⟩ := and_true hb
            have q1 : ti.bytes ≤ 4096 := Nat.le_of_ble_eq_true hb1
            have q2 : (cellsV z).length = ti.size := Nat.eq_of_beq_eq_true hb2
            obtain ⟨i, hi, isz, iby, hiz⟩ := ok.info
            obtain ⟨zx, zx1, zx2⟩ := hiz z hz
            have hzs : zx.cells.size = i.size := by have := (zx2 env M).cells.length; rw [isz, ← q2, this]; simp
            have hby : i.bytes ≤ 4096 := by rw [iby]; exact q1
            have core : ∀ (m : Nat) (new : RL V) (xs : List Value) (d : TypeDesc), P.underlying xt = some d → (∀ k, d ≠ .int k) → lenOf x' = pure m →
                (∀ w1 : World, w1.heap = w.heap → (firstCells i.size m x').run P w1 = .ok xs.toArray w1) → VRs env M new.toList xs → xs.length = m * ti.size →
                SndV env n0 P M h w (appGo e base len cap ti.size m new) (Builtin.append_ tys ty #[s', x']) := by
              intro m new xs d hd hnd hl hf hv hxl
              refine appGo_snd r hs hv hxl (e' := e) ?_ ?_
              · intro b' c' hs' hroom
                subst hs'
                rw [append_room hu hi h0 h1 hd hnd hl (hf w rfl) hroom, isz]
              · intro b' c' olds hs' hlt hsm hold
                subst hs'
                refine ⟨newCapOf w (len + m) c' e, zeroCells zx.cells (newCapOf w (len + m) c' e - (len + m)), newCap_ge _ _ _ _, by simp [zeroCells, hzs, isz], ?_⟩
                rw [← isz] at hold
                exact append_grow hu hi zx1 h0 h1 hd hnd hl (hf _ rfl) hold hlt hsm hby
            show SndV env n0 P M h w (appX xv (tk cx xt) e base len cap ti.size (cellsV z)) _
            cases hx with
            | sn m c =>
              show SndV env n0 P M h w (match isSl (tk cx xt) && Nat.beq m 0 with | true => appGo e base len cap ti.size m [] | false => .bad 39) _
              cases hc : (isSl (tk cx xt) && Nat.beq m 0) with
              | false => exact Snd.bad
              | true =>
                obtain ⟨c1, c2⟩ := and_true hc
                have m0 : m = 0 := Nat.eq_of_beq_eq_true c2
                subst m0
                cases hxk : tk cx xt with
                | slice e2 =>
                  rw [hxk] at hkx
                  exact core 0 [] [] _ hkx (by intro k e; cases e) rfl (fun w1 _ => rfl) .nil (by simp)
                | _ => rw [hxk] at c1; cases c1
            | sl b o m c c' pl a' hM g1 g2 g3 g4 =>
              show SndV env n0 P M h w (match isSl (tk cx xt) with | true => .rows b o (Nat.mul m ti.size) fun new => appGo e base len cap ti.size m new | false => .bad 39) _
              cases hc : isSl (tk cx xt) with
              | false => exact Snd.bad
              | true =>
                cases hxk : tk cx xt with
                | slice e2 =>
                  rw [hxk] at hkx
                  intro nx lg a h' nx' lg' hn er
                  obtain ⟨el, es, ex, cs, k1, k2, k3⟩ := run_rows er
                  obtain ⟨pl', c2, el', fz, m1, m2, m3, m4, m5⟩ := r.live k1
                  rw [hM] at m1; cases m1
                  obtain ⟨xs, o1, o2, o3, o4⟩ := m3.loads (P := P) o (m * ti.size) k2
                  refine core m _ xs _ hkx (by intro k e; cases e) rfl ?_ (by rw [RL.toList_take, RL.toList_drop]; exact o2) o1 nx _ a h' nx' lg' hn k3
                  intro w1 hw1
                  show (loadCells a' (m * i.size)).run P w1 = _
                  rw [isz]
                  rcases g3 with e0 | e0
                  · rw [e0, ← o1]
                    refine loadCells_run _ xs ?_
                    intro j x e
                    rw [add_eq, cell_of pl _ (c := c2) (el := el') (fz := fz) (by rw [hw1]; exact m3.heap)]
                    exact o4 j x e
                  · have m0 : m = 0 := by omega
                    subst m0
                    rw [Nat.zero_mul] at o1 ⊢
                    rw [List.length_eq_zero_iff.1 o1]; rfl
                | _ => rw [hxk] at hc; cases hc
            | s rr s h1' h2' =>
              show SndV env n0 P M h w (match isSt (tk cx xt) && Nat.beq ti.size 1 with | true => appGo e base len cap ti.size rr.len (u8s rr) | false => .bad 39) _
              cases hc : (isSt (tk cx xt) && Nat.beq ti.size 1) with
              | false => exact Snd.bad
              | true =>
                obtain ⟨c1, c2⟩ := and_true hc
                have s1 : ti.size = 1 := Nat.eq_of_beq_eq_true c2
                cases hxk : tk cx xt with
                | string =>
                  rw [hxk] at hkx
                  have hsz := str_size h1'
                  refine core rr.len (u8s rr) (s.data.toList.map fun b => Value.int .u8 b.toNat) _ hkx (by intro k e; cases e) ?_ ?_ (str_VRs h1' h2') ?_
                  · rw [RL.len_eq, ← hsz]; rfl
                  · intro w1 _
                    show (pure ((s.extract 0 rr.len).data.map fun b => Value.int .u8 b.toNat) : Sem (Array Value)).run P w1 = _
                    rw [Sem.run_pure]
                    congr 1
                    apply Array.toList_inj.1
                    rw [Array.toList_map, cut_list, RL.len_eq, ← hsz, List.take_of_length_le (by show s.data.toList.length ≤ s.data.size; simp)]
                  · simp only [List.length_map, Array.length_toList]; rw [s1, RL.len_eq, ← hsz, Nat.mul_one]; rfl
                | _ => rw [hxk] at c1; cases c1
            | i kk ie =>
              show SndV env n0 P M h w (match isIn (tk cx xt) with | true => appInt ie e base len cap ti.size (cellsV z) | false => .bad 39) _
              cases hc : isIn (tk cx xt) with
              | false => exact Snd.bad
              | true =>
                cases hxk : tk cx xt with
                | int k2 =>
                  rw [hxk] at hkx
                  have hd : P.underlying xt = some (.int k2) := hkx
                  match ie with
                  | .c (.ofNat m) =>
                    show SndV env n0 P M h w (match Nat.ble m 1048576 with | true => appGo e base len cap ti.size m (RL.rep m (cellsV z)) | false => .bad 38) _
                    cases hm : Nat.ble m 1048576 with
                    | false => exact Snd.bad
                    | true =>
                      have hm : m ≤ 1048576 := Nat.le_of_ble_eq_true hm
                      refine appGo_snd r hs (rep_zeros (zx2 env M) m) (by simp [zeroCells, hzs, isz]) (e' := e) ?_ ?_
                      · intro b' c' hs' hroom
                        subst hs'
                        have := appendz_room (ty := ty) (w := w) (base := b') hu hi zx1 h0 h1 hd (j := kk) hm hby hzs hroom
                        rw [isz] at this
                        exact this
                      · intro b' c' olds hs' hlt hsm hold
                        subst hs'
                        rw [← isz] at hold
                        refine ⟨newCapOf w (len + m) c' e, zeroCells zx.cells (newCapOf w (len + m) c' e - (len + m)), newCap_ge _ _ _ _, by simp [zeroCells, hzs, isz], ?_⟩
                        have := appendz_grow (ty := ty) (w := w) (base := b') hu hi zx1 h0 h1 hd (j := kk) hm hby hzs hold hlt hsm
                        simp only [Array.toArray_toList]
                        exact this
                  | .c (.negSucc m) => exact Snd.bad
                  | .v _ => exact Snd.bad
                  | .wrap _ _ => exact Snd.bad
                  | .bin .. => exact Snd.bad
                | _ => rw [hxk] at hc; cases hc
            | _ => exact Snd.bad
    | _ => exact Snd.bad
  | _ => exact Snd.bad

theorem copy_snd (hT : TabOk P cx) (r : Rel env n0 M h w) {dv sv : V} {d' s' : Value} (hd : VR env M dv d') (hs : VR env M sv s') {tys : Array TypeId} {dt : TypeId} {rest : List TypeId} (hty : tys.toList = dt :: rest) (ty : TypeId) :
    SndV env n0 P M h w (vcopy (tk cx dt) cx dv sv) (Builtin.copy_ tys ty #[d', s']) := by
  have h0 : tys[0]? = some dt := by rw [← Array.getElem?_toList, hty]; rfl
  have hk := tk_ok hT dt
  cases hkk : tk cx dt with
  | slice e =>
    rw [hkk] at hk
    have hu : P.underlying dt = some (.slice e) := hk
    show SndV env n0 P M h w (cpS dv cx e sv) _
    cases dv with
    | sl base dl dc =>
      show SndV env n0 P M h w (match tsize cx e with | some n => cpFrom sv base dl n | none => .bad 45) _
      cases hts : tsize cx e with
      | none => exact Snd.bad
      | some n =>
        show SndV env n0 P M h w (cpFrom sv base dl n) _
        obtain ⟨b', c', rfl, hc1, hc2⟩ := hd.sl_inv
        have core : ∀ (k : Nat) (new : RL V) (xs : List Value), lenOf s' = pure k → (firstCells n (Nat.min k dl) s').run P w = .ok xs.toArray w → VRs env M new.toList xs →
            (dl = 0 → xs = []) → SndV env n0 P M h w (cpPut base (Nat.min k dl) new) (Builtin.copy_ tys ty #[.slice b' dl c', s']) := by
          intro k new xs hl hf hv hx0
          have hrun : (Builtin.copy_ tys ty #[.slice b' dl c', s']).run P w =
              ((match b' with | some a => storeCells a xs | none => pure () : Sem Unit).run P w).andThen fun _ w' => .ok (goInt (Nat.min k dl)) w' := by
            simp only [Builtin.copy_, h0, List.getElem?_toArray, List.getElem?_cons_zero, List.getElem?_cons_succ, Sem.run_bind, run_und hu, Result.andThen_ok, hl, pure_bind, tsize_ok hT hts w, hf]
            cases b' <;> simp
          cases hd with
          | sn _ _ =>
            refine Snd.ret r ?_ (VR.i .i64 (.c (.ofNat (Nat.min k dl))))
            rw [hrun]; rfl
          | sl b o _ _ _ pl a' hM h1 h2 h3 h4 =>
            intro nx lg a h' nx' lg' hn er
            obtain ⟨el, es, ex, cs, g1, g2, g3, g4, g5⟩ := run_sets er
            obtain ⟨e4, e5⟩ := run_ret g5
            cases e5; subst e4
            obtain ⟨w', s1, s2, s3⟩ := sets_write (P := P) r g1 hM g2 g3 g4 hv
            refine ⟨M, w', _, ?_, M.le_refl, s2, VR.i .i64 (.c (.ofNat (Nat.min k dl))), s3, hn⟩
            rw [hrun]
            have : (storeCells a' xs).run P w = .ok () w' := by
              rcases h3 with e0 | e0
              · rw [e0]; exact s1
              · have hd0 : dl = 0 := by omega
                have := hx0 hd0
                subst this
                have e6 : w' = w := by
                  have := s1
                  simp only [storeCells] at this
                  cases this; rfl
                rw [e6]; rfl
            simp only [this, Result.andThen_ok]; rfl
        cases hs with
        | sn m c => exact core m [] [] rfl rfl .nil (fun _ => rfl)
        | sl b o m c c2 pl a' hM g1 g2 g3 g4 =>
          intro nx lg a h' nx' lg' hn er
          obtain ⟨el, es, ex, cs, k1, k2, k3⟩ := run_rows er
          obtain ⟨pl', cc, el', fz, m1, m2, m3, m4, m5⟩ := r.live k1
          rw [hM] at m1; cases m1
          obtain ⟨xs, o1, o2, o3, o4⟩ := m3.loads (P := P) o (Nat.min m dl * n) k2
          refine core m _ xs rfl ?_ (by rw [RL.toList_take, RL.toList_drop]; exact o2) ?_ nx _ a h' nx' lg' hn k3
          · show (loadCells a' (Nat.min m dl * n)).run P w = _
            rcases g3 with e0 | e0
            · rw [e0]; exact o3
            · have m0 : m = 0 := by omega
              subst m0
              have z0 : Nat.min 0 dl * n = 0 := by rw [show Nat.min 0 dl = 0 from Nat.zero_min dl, Nat.zero_mul]
              rw [z0] at o1 ⊢
              rw [List.length_eq_zero_iff.1 o1]; rfl
          · intro d0
            subst d0
            rw [show Nat.min m 0 = 0 from Nat.min_zero m, Nat.zero_mul] at o1
            exact List.length_eq_zero_iff.1 o1
        | s rr s h1' h2' =>
          have hsz := str_size h1'
          refine core rr.len (u8s (rr.take (Nat.min rr.len dl))) ((s.data.toList.take (Nat.min rr.len dl)).map fun b => Value.int .u8 b.toNat) ?_ ?_ ?_ ?_
          · rw [RL.len_eq, ← hsz]; rfl
          · show (pure ((s.extract 0 (Nat.min rr.len dl)).data.map fun b => Value.int .u8 b.toNat) : Sem (Array Value)).run P w = _
            rw [Sem.run_pure]
            congr 1
            apply Array.toList_inj.1
            rw [Array.toList_map, cut_list]
          · have := (str_VRs (env := env) (M := M) h1' h2').take (Nat.min rr.len dl)
            rw [u8s_toList] at this ⊢
            rw [RL.toList_take]
            rwa [← List.map_take, ← List.map_take] at this
          · intro d0; subst d0; rw [show Nat.min rr.len 0 = 0 from Nat.min_zero _]; rfl
        | _ => exact Snd.bad
    | _ => exact Snd.bad
  | _ => exact Snd.bad
end ops
end Go.Vm
namespace Go.Vm
open Go.RowKit
section ops
variable {env : Nat → Int} {n0 : Old} {P : Program} {M : Mp} {h : Tr Ob} {w : World} {cx : Cx}

theorem VR.i' {k : IntKind} {e : IE} {n : Int} (h : e.den env = n) : VR env M (.i k e) (.int k n) := h ▸ VR.i k e
theorem VR.b' {e : BE} {b : Bool} (h : e.den env = b) : VR env M (.b e) (.bool b) := h ▸ VR.b e
theorem isS_ok (hT : TabOk P cx) {t : TypeId} (e : isS (cx.ty.get t) = true) : ∃ d, P.underlying t = some d := by
  cases ht : cx.ty.get t with
  | none => rw [ht] at e; cases e
  | some ti => exact let ⟨d, h1, _⟩ := (hT t ti ht).und; ⟨d, h1⟩

/-! ### conversions -/
theorem constBytes_ok : ∀ (cs : RL V) (r : RL Nat) (xs : List Value), constBytes cs = some r → VRs env M cs.toList xs → okBytes r ∧ xs = r.toList.map fun (n : Nat) => Value.int .u8 (n : Int)
  | [], r, xs, e, hx => by
    cases e
    cases hx
    exact ⟨(fun n hn => by cases hn), rfl⟩
  | (v, k) :: cs, r, xs, e, hx => by
    match v, e, hx with
    | .i .u8 (.c (.ofNat n)), e, hx =>
      simp only [constBytes] at e
      cases hb : Nat.ble n 255 with
      | false => rw [hb] at e; cases e
      | true =>
        rw [hb] at e
        have hb : n ≤ 255 := Nat.le_of_ble_eq_true hb
        cases hc : constBytes cs with
        | none => rw [hc] at e; cases e
        | some r' =>
          rw [hc] at e
          cases e
          rw [RL.toList_cons] at hx
          have h1 := hx.take k
          have h2 := hx.drop k
          rw [List.take_left' (by simp)] at h1
          rw [List.drop_left' (by simp)] at h2
          obtain ⟨i1, i2⟩ := constBytes_ok cs r' _ hc h2
          refine ⟨?_, ?_⟩
          · intro m hm
            rw [RL.toList_cons, List.mem_append] at hm
            rcases hm with hm | hm
            · rw [(List.mem_replicate.1 hm).2]; omega
            · exact i1 m hm
          · rw [RL.toList_cons, List.map_append, ← i2, List.map_replicate]
            have h3 : xs.take k = List.replicate k (Value.int .u8 (n : Int)) := by
              have hl := h1.length
              rw [List.length_replicate] at hl
              refine List.eq_replicate_iff.2 ⟨hl.symm, ?_⟩
              intro x hx'
              obtain ⟨j, hj⟩ := List.getElem?_of_mem hx'
              have hlt : j < k := by have := (List.getElem?_eq_some_iff.1 hj).1; omega
              obtain ⟨y, y1, y2⟩ := h1.get j (V.i .u8 (.c (.ofNat n))) (by rw [List.getElem?_replicate, if_pos hlt])
              rw [hj] at y1; cases y1
              cases y2; rfl
            rw [← h3, List.take_append_drop]
theorem push_list : ∀ (ns : List Int) (s : ByteArray), (ns.foldl (fun r n => r.push (UInt8.ofNat n.toNat)) s).data.toList = s.data.toList ++ ns.map fun n => UInt8.ofNat n.toNat
  | [], s => by simp
  | n :: ns, s => by
    rw [List.foldl_cons, push_list ns]
    simp [ByteArray.push]
theorem convert_snd (hT : TabOk P cx) (r : Rel env n0 M h w) {v : V} {x : Value} (hv : VR env M v x) (src dst : TypeId) :
    SndV env n0 P M h w (vconvert (tk cx dst) cx src v) (convert src dst x) := by
  have hk := tk_ok hT dst
  cases hkk : tk cx dst with
  | int k =>
    rw [hkk] at hk
    have hu : P.underlying dst = some (.int k) := hk
    show SndV env n0 P M h w (match isS (cx.ty.get src) with | true => convI v k | false => .bad 62) _
    cases hs : isS (cx.ty.get src) with
    | false => exact Snd.bad
    | true =>
      obtain ⟨d, hd⟩ := isS_ok hT hs
      cases hv with
      | i k2 e =>
        refine Snd.ret r (x := .int k (k.wrap (e.den env))) ?_ (VR.i' (mkWrap_den env e k))
        simp only [convert, Sem.run_bind, run_und hd, run_und hu, Result.andThen_ok]
        cases d <;> rfl
      | _ => exact Snd.bad
  | string =>
    rw [hkk] at hk
    have hu : P.underlying dst = some .string := hk
    show SndV env n0 P M h w (convS2 (tk cx src) cx v) _
    have hks := tk_ok hT src
    cases hsk : tk cx src with
    | string =>
      rw [hsk] at hks
      have hd : P.underlying src = some .string := hks
      cases hv with
      | s rr s h1 h2 =>
        refine Snd.ret r ?_ (VR.s rr s h1 h2)
        simp only [convert, Sem.run_bind, run_und hd, run_und hu, Result.andThen_ok]
        rfl
      | _ => exact Snd.bad
    | slice e =>
      rw [hsk] at hks
      have hd : P.underlying src = some (.slice e) := hks
      show SndV env n0 P M h w (convSl v (tk cx e)) _
      have hke := tk_ok hT e
      cases hek : tk cx e with
      | int k =>
        rw [hek] at hke
        have he : P.underlying e = some (.int k) := hke
        cases k with
        | u8 =>
          have go : ∀ x, (∃ b l c, x = Value.slice b l c) → (convert src dst x).run P w = (Conv.bytesToString x).run P w := by
            rintro x ⟨b, l, c, rfl⟩
            simp only [convert, Sem.run_bind, run_und hd, run_und hu, Result.andThen_ok, run_und he]
          cases hv with
          | sn l c =>
            refine Snd.ret r (x := .string .empty) ?_ (VR.s [] _ rfl (fun n hn => by cases hn))
            rw [go _ ⟨_, _, _, rfl⟩]; rfl
          | sl b o l c c' pl a hM h1 h2 h3 h4 =>
            intro nx lg a' h' nx' lg' hn er
            obtain ⟨el, es, ex, cs, g1, g2, g3⟩ := run_rows er
            cases hcb : constBytes ((cs.drop o).take l) with
            | none => rw [hcb] at g3; exact (run_bad g3).elim
            | some rr =>
              rw [hcb] at g3
              obtain ⟨e4, e5⟩ := run_ret g3
              cases e5; subst e4
              obtain ⟨pl', c2, el', fz, m1, m2, m3, m4, m5⟩ := r.live g1
              rw [hM] at m1; cases m1
              obtain ⟨xs, o1, o2, o3, o4⟩ := m3.loads (P := P) o l g2
              rw [← RL.toList_drop, ← RL.toList_take] at o2
              obtain ⟨k1, k2⟩ := constBytes_ok _ _ _ hcb o2
              have hld : (loadCells a l).run P w = .ok xs.toArray w := by
                rcases h3 with e0 | e0
                · rw [e0]; exact o3
                · have : l = 0 := by omega
                  subst this
                  rw [List.length_eq_zero_iff.1 o1]; rfl
              have hxs : xs = (rr.toList.map fun (n : Nat) => (n : Int)).map (Value.int .u8) := by rw [k2, List.map_map]; rfl
              rw [hxs] at hld
              have hrun := run_bytesToString w a l c' _ hld
              rw [← go _ ⟨_, _, _, rfl⟩] at hrun
              refine ⟨M, w, _, hrun, M.le_refl, r, VR.s rr _ ?_ k1, Below.refl _ _, hn⟩
              rw [push_list]
              simp [bytesOf, List.map_map]
          | _ => exact Snd.bad
        | _ => cases hv <;> exact Snd.bad
      | _ => cases hv <;> exact Snd.bad
    | _ => exact Snd.bad
  | slice e =>
    rw [hkk] at hk
    have hu : P.underlying dst = some (.slice e) := hk
    show SndV env n0 P M h w (match tk cx src with | .string => convB v e (tk cx e) | _ => .bad 62) _
    have hks := tk_ok hT src
    cases hsk : tk cx src with
    | string =>
      rw [hsk] at hks
      have hd : P.underlying src = some .string := hks
      cases hv with
      | s rr s h1 h2 =>
        show SndV env n0 P M h w (match tk cx e with | .int .u8 => vnew e 1 (u8s rr) false (sliceTo rr.len rr.len) | _ => .bad 62) _
        have hke := tk_ok hT e
        cases hek : tk cx e with
        | int k =>
          rw [hek] at hke
          have he : P.underlying e = some (.int k) := hke
          cases k with
          | u8 =>
            have hsz := str_size h1
            have hlen : rr.len = s.size := by rw [RL.len_eq, hsz]
            have hcap : s.size ≤ newCapOf w s.size 0 e := newCap_ge w s.size 0 e
            have hch : (choose (.appendCap s.size 0 e)).run P w = .ok (newCapOf w s.size 0 e) (drawn1 w) := by
              rw [run_choose]; rfl
            intro nx lg a h' nx' lg' hn hr
            obtain ⟨q1, q2⟩ := run_new hr
            obtain ⟨e4, e5⟩ := run_ret q2
            cases e5; subst e4
            have hM := r.dom nx q1
            have hxs := str_VRs (env := env) (M := M) h1 h2
            generalize hxd : (s.data.toList.map fun b => Value.int .u8 b.toNat) = xs at hxs
            have hxl : xs.length = s.size := by rw [← hxd, List.length_map, Array.length_toList]; rfl
            generalize hcc : xs.toArray ++ Array.replicate (newCapOf w s.size 0 e - s.size) (Value.int .u8 0) = cc
            have hccs : cc.size = newCapOf w s.size 0 e := by rw [← hcc]; simp [hxl]; omega
            have hfz : (World.freeze { drawn1 w with heap := w.heap.push (.cells cc e (0, 0)) } ⟨w.heap.size, cc.size, none⟩ 1) = { drawn1 w with heap := w.heap.push (.cells cc e (cc.size, cc.size + 1)) } := by
              unfold World.freeze
              rw [if_neg (by omega)]
              congr 1
              apply Array.ext_getElem?
              intro k
              rw [Array.getElem?_modify, push_get, push_get]
              by_cases hk2 : w.heap.size = k
              · subst hk2; simp
              · rw [if_neg hk2, if_neg (fun e => hk2 e.symm), if_neg (fun e => hk2 e.symm)]
            have hrun : (convert src dst (.string s)).run P w = .ok (.slice (some ⟨w.heap.size, 0, none⟩) s.size (newCapOf w s.size 0 e)) { drawn1 w with heap := w.heap.push (.cells cc e (cc.size, cc.size + 1)) } := by
              simp only [convert, Sem.run_bind, run_und hd, run_und hu, Result.andThen_ok, run_und he, Conv.stringToBytes, hch, newRow, run_newObj, Sem.run_pure, markStringish, run_shape]
              have hel : (s.data.map fun b => Value.int .u8 b.toNat) ++ Array.replicate (newCapOf w s.size 0 e - s.size) (Value.int .u8 0) = cc := by
                rw [← hcc, ← hxd]; congr 1; apply Array.toList_inj.1; simp
              rw [hel]
              have hsh : World.shape? { drawn1 w with heap := (drawn1 w).heap.push (.cells cc e (0, 0)) } (drawn1 w).heap.size = some (e, cc.size) := by
                simp [World.shape?]
              rw [hsh]
              simp only [run_freeze]
              rw [show (drawn1 w).heap = w.heap from rfl, hfz]
              rfl
            have hpush := (r.same (w' := drawn1 w) rfl).push q1 hn (ob := .cells e 1 false true (u8s rr)) (o := .cells cc e (cc.size, cc.size + 1)) (pl := ⟨w.heap.size, 0, cc.size, 1, false⟩) rfl rfl (fun w' hw' => by
              refine OR.live (pl := ⟨w.heap.size, 0, cc.size, 1, false⟩) e false (u8s rr) cc e _ hw' rfl ?_ ?_ ?_ (fun e => by cases e)
              · show 0 + _ ≤ cc.size
                rw [hxs.length, hxl, hccs]; omega
              · intro i v hv
                obtain ⟨x, x1, x2⟩ := hxs.get i v hv
                refine ⟨x, ?_, x2.mono (Mp.le_add hM)⟩
                show cc[0 + i]? = _
                have hlt := (List.getElem?_eq_some_iff.1 x1).1
                rw [← hcc, Nat.zero_add, Array.getElem?_append_left (by simpa using hlt)]
                simpa using x1
              · intro _; exact .inr (Nat.le_refl _))
            refine ⟨_, _, _, hrun, Mp.le_add hM, hpush, ?_, ?_, by omega⟩
            · rw [hlen]
              exact VR.sl nx 0 s.size s.size _ ⟨w.heap.size, 0, cc.size, 1, false⟩ _ (add_self _ _ _) hcap (by show 0 + 0 + _ * 1 ≤ cc.size; omega) (.inl rfl) (Nat.le_refl _)
            · exact (drawn1_below w n0.n).trans (push_below (w := drawn1 w) r.size _)
          | _ => exact Snd.bad
        | _ => exact Snd.bad
      | _ => exact Snd.bad
    | _ => exact Snd.bad
  | _ => exact Snd.bad
end ops
end Go.Vm
namespace Go.Vm
open Go.RowKit
section ops
variable {env : Nat → Int} {n0 : Old} {P : Program} {M : Mp} {h : Tr Ob} {w : World} {cx : Cx}

/-! ### strings that are the same -/
def posR (r : RL Nat) : Prop := ∀ x ∈ r, 0 < x.2
theorem noNil_toList : ∀ r : RL Nat, (noNil r).toList = r.toList
  | [] => rfl
  | x :: r => by
    simp only [noNil]
    cases hb : Nat.beq x.2 0 with
    | true =>
      have : x.2 = 0 := Nat.eq_of_beq_eq_true hb
      rw [RL.toList_cons, this, noNil_toList r]; simp
    | false => rw [RL.toList_cons, RL.toList_cons, noNil_toList r]
theorem noNil_pos : ∀ r : RL Nat, posR (noNil r)
  | [] => fun x hx => by cases hx
  | y :: r => by
    simp only [noNil]
    cases hb : Nat.beq y.2 0 with
    | true => exact noNil_pos r
    | false =>
      intro x hx
      rcases List.mem_cons.1 hx with e | e
      · subst e
        rw [RL.beq_dec] at hb
        have := of_decide_eq_false hb
        omega
      · exact noNil_pos r x e
theorem noNil_length : ∀ r : RL Nat, (noNil r).length ≤ r.length
  | [] => Nat.le_refl _
  | y :: r => by
    simp only [noNil]
    have := noNil_length r
    cases hb : Nat.beq y.2 0 <;> simp <;> omega
theorem sameRL_eq : ∀ (f : Nat) (a b : RL Nat), posR a → posR b → a.length + b.length < f → sameRL f a b = decide (a.toList = b.toList)
  | 0, _, _, _, _, h => by omega
  | f + 1, [], [], _, _, _ => by simp [sameRL]
  | f + 1, [], y :: s, _, hb, _ => by
    have : 0 < y.2 := hb y List.mem_cons_self
    rw [RL.toList_cons, show y.2 = (y.2 - 1) + 1 by omega]
    simp [sameRL, RL.toList_nil, List.replicate_succ]
  | f + 1, x :: r, [], ha, _, _ => by
    have : 0 < x.2 := ha x List.mem_cons_self
    rw [RL.toList_cons, show x.2 = (x.2 - 1) + 1 by omega]
    simp [sameRL, RL.toList_nil, List.replicate_succ]
  | f + 1, (u, m) :: r, (v, n) :: s, ha, hb, hf => by
    have hm : 0 < m := ha (u, m) List.mem_cons_self
    have hn : 0 < n := hb (v, n) List.mem_cons_self
    have ha' : posR r := fun x hx => ha x (List.mem_cons_of_mem _ hx)
    have hb' : posR s := fun x hx => hb x (List.mem_cons_of_mem _ hx)
    simp only [List.length_cons] at hf
    simp only [sameRL, RL.toList_cons]
    cases huv : Nat.beq u v with
    | false =>
      rw [RL.beq_dec] at huv
      have hne := of_decide_eq_false huv
      obtain ⟨m, rfl⟩ : ∃ m', m = m' + 1 := ⟨m - 1, by omega⟩
      obtain ⟨n, rfl⟩ : ∃ m', n = m' + 1 := ⟨n - 1, by omega⟩
      simp [List.replicate_succ, hne]
    | true =>
      have := Nat.eq_of_beq_eq_true huv
      subst this
      simp only
      cases hmn : Nat.beq m n with
      | true =>
        have := Nat.eq_of_beq_eq_true hmn
        subst this
        simp only
        rw [sameRL_eq f r s ha' hb' (by omega)]
        congr 1
        simp
      | false =>
        rw [RL.beq_dec] at hmn
        have hne := of_decide_eq_false hmn
        simp only
        cases hlt : Nat.blt m n with
        | true =>
          have hlt : m < n := Nat.le_of_ble_eq_true hlt
          simp only
          rw [sameRL_eq f r ((u, n - m) :: s) ha' (fun x hx => by
            rcases List.mem_cons.1 hx with e | e
            · subst e; show 0 < n - m; omega
            · exact hb' x e) (by simp; omega)]
          congr 1
          rw [RL.toList_cons]
          conv => rhs; rw [show n = m + (n - m) by omega, ← List.replicate_append_replicate, List.append_assoc, List.append_cancel_left_eq]
        | false =>
          have hge : n < m := by
            have : ¬ (m + 1 ≤ n) := by
              intro hh
              have := Nat.ble_eq_true_of_le hh
              rw [show Nat.ble (m + 1) n = Nat.blt m n from rfl, hlt] at this
              cases this
            omega
          simp only
          rw [sameRL_eq f ((u, m - n) :: r) s (fun x hx => by
            rcases List.mem_cons.1 hx with e | e
            · subst e; show 0 < m - n; omega
            · exact ha' x e) hb' (by simp; omega)]
          congr 1
          rw [RL.toList_cons]
          conv => rhs; rw [show m = n + (m - n) by omega, ← List.replicate_append_replicate, List.append_assoc, List.append_cancel_left_eq]
theorem sameStr_eq (a b : RL Nat) : sameStr a b = decide (a.toList = b.toList) := by
  unfold sameStr
  cases hl : Nat.beq a.len b.len with
  | false =>
    rw [RL.beq_dec, RL.len_eq, RL.len_eq] at hl
    have := of_decide_eq_false hl
    symm
    rw [decide_eq_false_iff_not]
    intro e
    exact this (by rw [e])
  | true =>
    show sameRL _ _ _ = _
    have h1 := noNil_length a
    have h2 := noNil_length b
    rw [sameRL_eq _ _ _ (noNil_pos a) (noNil_pos b) (by omega), noNil_toList, noNil_toList]
theorem map_inj_lt : ∀ (l l' : List Nat), (∀ n ∈ l, n < 256) → (∀ n ∈ l', n < 256) → l.map UInt8.ofNat = l'.map UInt8.ofNat → l = l'
  | [], [], _, _, _ => rfl
  | [], _ :: _, _, _, e => by cases e
  | _ :: _, [], _, _, e => by cases e
  | a :: l, b :: l', h1, h2, e => by
    simp only [List.map_cons, List.cons.injEq] at e
    have ha : a < 256 := h1 a List.mem_cons_self
    have hb : b < 256 := h2 b List.mem_cons_self
    have e1 : (UInt8.ofNat a).toNat = (UInt8.ofNat b).toNat := by rw [e.1]
    have : a = b := by simp at e1; omega
    rw [this, map_inj_lt l l' (fun n hn => h1 n (List.mem_cons_of_mem _ hn)) (fun n hn => h2 n (List.mem_cons_of_mem _ hn)) e.2]
theorem sameStr_str {a b : RL Nat} {s t : ByteArray} (h1 : s.data.toList = bytesOf a) (h2 : okBytes a) (k1 : t.data.toList = bytesOf b) (k2 : okBytes b) : sameStr a b = (s.toList == t.toList) := by
  rw [sameStr_eq, ByteArray.toList_eq, ByteArray.toList_eq, h1, k1, Bool.eq_iff_iff]
  simp only [decide_eq_true_eq, beq_iff_eq]
  exact ⟨fun e => by unfold bytesOf; rw [e], fun e => map_inj_lt _ _ h2 k2 e⟩

/-! ### numbers -/
theorem natpow (n : Nat) : ((Int.ofNat (Nat.pow 2 n) : Int)) = (2 : Int) ^ n := by
  show ((2 ^ n : Nat) : Int) = _
  push_cast
  rfl
theorem shl_den (k : IntKind) (x y : Int) : IOp.den .shl k x y = x * 2 ^ (min y.toNat k.bits) := by
  show x * Int.ofNat (Nat.pow 2 (Nat.min y.toNat (bitsN k))) = _
  rw [natpow, bitsN_eq]
theorem shr_den (k : IntKind) (x y : Int) : IOp.den .shr k x y = x.fdiv (2 ^ (min y.toNat k.bits)) := by
  show x.fdiv (Int.ofNat (Nat.pow 2 (Nat.min y.toNat (bitsN k)))) = _
  rw [natpow, bitsN_eq]
theorem guard_run (op : BinOp) (t : TypeId) (x y : Operand) {a b : Value} (h1 : ∀ e, a ≠ .agg e) (h2 : a ≠ .nilIface) : (eqGuard op t x y a b).run P w = .ok () w := by
  unfold eqGuard
  cases op <;> cases a <;> first
    | rfl
    | exact absurd rfl (h1 _)
    | exact absurd rfl h2
/-- The guard and the operation. -/
theorem bin_run {op : BinOp} {t : TypeId} {x y : Operand} {a b v : Value} (h1 : (eqGuard op t x y a b).run P w = .ok () w) (h2 : (binOp op t a b).run P w = .ok v w) :
    (do eqGuard op t x y a b; binOp op t a b : Sem Value).run P w = .ok v w := by
  rw [Sem.run_bind, h1, Result.andThen_ok, h2]
theorem binI_snd (r : Rel env n0 M h w) (op : BinOp) (k : IntKind) (e e2 : IE) (t : TypeId) (x y : Operand) (hs : op ≠ .shl) (hs2 : op ≠ .shr) :
    SndV env n0 P M h w (binI op k e e2) (do eqGuard op t x y (.int k (e.den env)) (.int k (e2.den env)); binOp op t (.int k (e.den env)) (.int k (e2.den env))) := by
  have hg : (eqGuard op t x y (.int k (e.den env)) (.int k (e2.den env))).run P w = .ok () w := guard_run op t x y (fun _ e => by cases e) (fun e => by cases e)
  cases op with
  | shl => exact absurd rfl hs
  | shr => exact absurd rfl hs2
  | add => exact Snd.ret r (x := .int k (k.wrap (e.den env + e2.den env))) (bin_run hg (by simp [binOp, Op.intArith])) (VR.i' (by rw [mkWrap_den, mkBin_den]; rfl))
  | sub => exact Snd.ret r (x := .int k (k.wrap (e.den env - e2.den env))) (bin_run hg (by simp [binOp, Op.intArith])) (VR.i' (by rw [mkWrap_den, mkBin_den]; show k.wrap (isub _ _) = _; rw [isub_eq]))
  | mul => exact Snd.ret r (x := .int k (k.wrap (e.den env * e2.den env))) (bin_run hg (by simp [binOp, Op.intArith])) (VR.i' (by rw [mkWrap_den, mkBin_den]; rfl))
  | quo =>
    show SndV env n0 P M h w (divI e2 k e) _
    match e2, hg with
    | .c n, hg =>
      show SndV env n0 P M h w (match ieqb n 0 with | true => .bad 51 | false => .ret (.i k (mkWrap (mkBin e .tdiv k (.c n)) k))) _
      cases hz : ieqb n 0 with
      | true => exact Snd.bad
      | false =>
        rw [ieqb_eq] at hz
        have hn : n ≠ 0 := by simpa using hz
        exact Snd.ret r (x := .int k (k.wrap ((e.den env).tdiv n))) (bin_run hg (by simp [binOp, Op.intDiv, IE.den, hn])) (VR.i' (by rw [mkWrap_den, mkBin_den]; rfl))
    | .v _, _ => exact Snd.bad
    | .wrap _ _, _ => exact Snd.bad
    | .bin .., _ => exact Snd.bad
  | rem =>
    show SndV env n0 P M h w (remI e2 k e) _
    match e2, hg with
    | .c n, hg =>
      show SndV env n0 P M h w (match ieqb n 0 with | true => .bad 53 | false => .ret (.i k (mkBin e .tmod k (.c n)))) _
      cases hz : ieqb n 0 with
      | true => exact Snd.bad
      | false =>
        rw [ieqb_eq] at hz
        have hn : n ≠ 0 := by simpa using hz
        exact Snd.ret r (x := .int k ((e.den env).tmod n)) (bin_run hg (by simp [binOp, Op.intDiv, IE.den, hn])) (VR.i' (by rw [mkBin_den]; rfl))
    | .v _, _ => exact Snd.bad
    | .wrap _ _, _ => exact Snd.bad
    | .bin .., _ => exact Snd.bad
  | and => exact Snd.ret r (x := .int k _) (bin_run hg (by simp only [binOp, Op.intBits, ne_eq, not_true_eq_false, if_false, Sem.run_pure]; rfl)) (VR.i' (by rw [mkBin_den]; exact andF_eq _ _ _))
  | or => exact Snd.ret r (x := .int k _) (bin_run hg (by simp only [binOp, Op.intBits, ne_eq, not_true_eq_false, if_false, Sem.run_pure]; rfl)) (VR.i' (by rw [mkBin_den]; exact orF_eq _ _ _))
  | xor => exact Snd.ret r (x := .int k _) (bin_run hg (by simp only [binOp, Op.intBits, ne_eq, not_true_eq_false, if_false, Sem.run_pure]; rfl)) (VR.i' (by rw [mkBin_den]; exact xorF_eq _ _ _))
  | andNot => exact Snd.ret r (x := .int k _) (bin_run hg (by simp only [binOp, Op.intBits, ne_eq, not_true_eq_false, if_false, Sem.run_pure]; rfl)) (VR.i' (by rw [mkBin_den]; exact andNotF_eq _ _ _))
  | eql => exact Snd.ret r (x := .bool (e.den env == e2.den env)) (bin_run hg (by simp [binOp, Op.intCmp])) (VR.b' (mkEq_den env _ _))
  | neq => exact Snd.ret r (x := .bool (e.den env != e2.den env)) (bin_run hg (by simp [binOp, Op.intCmp])) (VR.b' (by rw [mkNot_den, mkEq_den]; rfl))
  | lss => exact Snd.ret r (x := .bool (decide (e.den env < e2.den env))) (bin_run hg (by simp [binOp, Op.intCmp])) (VR.b' (mkLt_den env _ _))
  | leq => exact Snd.ret r (x := .bool (decide (e.den env ≤ e2.den env))) (bin_run hg (by simp [binOp, Op.intCmp])) (VR.b' (mkLe_den env _ _))
  | gtr => exact Snd.ret r (x := .bool (decide (e2.den env < e.den env))) (bin_run hg (by simp [binOp, Op.intCmp])) (VR.b' (mkLt_den env _ _))
  | geq => exact Snd.ret r (x := .bool (decide (e2.den env ≤ e.den env))) (bin_run hg (by simp [binOp, Op.intCmp])) (VR.b' (mkLe_den env _ _))
theorem retB_snd (r : Rel env n0 M h w) {o : Option BE} {s : Sem Value} {b : Bool} (ho : ∀ e, o = some e → e.den env = b) (hs : o ≠ none → s.run P w = .ok (.bool b) w) : SndV env n0 P M h w (retB o) s := by
  cases o with
  | none => exact Snd.bad
  | some e => exact Snd.ret r (hs (by simp)) (VR.b' (ho e rfl))
theorem retNB_snd (r : Rel env n0 M h w) {o : Option BE} {s : Sem Value} {b : Bool} (ho : ∀ e, o = some e → e.den env = b) (hs : o ≠ none → s.run P w = .ok (.bool (!b)) w) : SndV env n0 P M h w (retNB o) s := by
  cases o with
  | none => exact Snd.bad
  | some e => exact Snd.ret r (hs (by simp)) (VR.b' (by rw [mkNot_den, ho e rfl]))
end ops
end Go.Vm
namespace Go.Vm
open Go.RowKit
section ops
variable {env : Nat → Int} {n0 : Old} {P : Program} {M : Mp} {h : Tr Ob} {w : World} {cx : Cx}

theorem eqWith_den (e : BE) (b : Bool) : (eqWith e b).den env = (e.den env == b) := by
  cases b with
  | true => show e.den env = _; simp
  | false => show (mkNot e).den env = _; rw [mkNot_den]; cases e.den env <;> rfl
theorem eqB2_den {a b e : BE} (h : eqB2 a b = some e) : e.den env = (a.den env == b.den env) := by
  have hc : ∀ (a : BE) (c : Bool), eqWith a c = e → e.den env = (a.den env == c) := fun a c h => by rw [← h]; exact eqWith_den a c
  cases a with
  | c a =>
    have := hc b a (Option.some.inj h)
    rw [this]
    show _ = (a == b.den env)
    cases a <;> cases b.den env <;> rfl
  | _ =>
    cases b with
    | c b => exact hc _ b (Option.some.inj h)
    | _ => cases h
theorem veq_snd' (hT : TabOk P cx) {a b : V} {a' b' : Value} (ha : VR env M a a') (hb : VR env M b b') (t : TypeId) (cst : Bool) {e : BE} (he : veq (tk cx t) cx cst a b = some e) (w : World) (d : Nat) :
    (Op.equalIn (d + 1) t a' b').run P w = .ok (e.den env) w := by
  have hk := tk_ok hT t
  cases hkk : tk cx t with
  | bool =>
    rw [hkk] at hk he
    have hu : P.underlying t = some .bool := hk
    replace he : eqBB a b = some e := he
    cases ha with
    | b ba => cases hb with
      | b bb =>
        rw [eqB2_den (a := ba) (b := bb) he]
        simp only [Op.equalIn, Sem.run_bind, run_und hu, Result.andThen_ok, Sem.run_pure]
      | _ => cases he
    | _ => cases he
  | pointer el =>
    rw [hkk] at hk he
    have hu : P.underlying t = some (.pointer el) := hk
    replace he : eqPP a (tsize cx el) b = some e := he
    cases ha with
    | pn => cases hb with
      | pn => cases he; simp only [Op.equalIn, Sem.run_bind, run_und hu, Result.andThen_ok, Sem.run_pure]; rfl
      | p b o pl hM => cases he; simp only [Op.equalIn, Sem.run_bind, run_und hu, Result.andThen_ok, Sem.run_pure]; rfl
      | _ => cases he
    | p b1 o1 pl1 hM1 => cases hb with
      | pn => cases he; simp only [Op.equalIn, Sem.run_bind, run_und hu, Result.andThen_ok, Sem.run_pure]; rfl
      | p b2 o2 pl2 hM2 =>
        replace he : (match Nat.beq b1 b2 with | true => eqSame (tsize cx el) o1 o2 | false => none) = some e := he
        cases hbb : Nat.beq b1 b2 with
        | false => rw [hbb] at he; cases he
        | true =>
          rw [hbb] at he
          have := Nat.eq_of_beq_eq_true hbb
          subst this
          rw [hM1] at hM2; cases hM2
          cases hts : tsize cx el with
          | none => rw [hts] at he; cases he
          | some n =>
            rw [hts] at he
            replace he : (match Nat.beq o1 o2 with | true => some (.c true) | false => match Nat.beq n 0 with | true => none | false => some (.c false)) = some e := he
            have hsz := tsize_ok hT hts w
            cases ho : Nat.beq o1 o2 with
            | true =>
              rw [ho] at he
              have := Nat.eq_of_beq_eq_true ho
              subst this
              cases he
              by_cases hn : n = 0
              · subst hn
                simp [Op.equalIn, Sem.run_bind, run_und hu, Result.andThen_ok, hsz, BE.den]
              · simp [Op.equalIn, Sem.run_bind, run_und hu, Result.andThen_ok, hsz, hn, sameAddr, BE.den]
            | false =>
              rw [ho] at he
              have hoo : o1 ≠ o2 := by rw [RL.beq_dec] at ho; exact of_decide_eq_false ho
              cases hn0 : Nat.beq n 0 with
              | true => rw [hn0] at he; cases he
              | false =>
                rw [hn0] at he
                cases he
                have hn : n ≠ 0 := by rw [RL.beq_dec] at hn0; exact of_decide_eq_false hn0
                simp [Op.equalIn, Sem.run_bind, run_und hu, Result.andThen_ok, hsz, hn, sameAddr, BE.den, hoo]
      | _ => cases he
    | _ => cases he
  | slice el =>
    rw [hkk] at hk he
    have hu : P.underlying t = some (.slice el) := hk
    replace he : eqSl a b = some e := he
    cases ha with
    | sn l c => cases hb with
      | sn l2 c2 => cases he; simp only [Op.equalIn, Sem.run_bind, run_und hu, Result.andThen_ok, Sem.run_pure]; rfl
      | sl => cases he; simp only [Op.equalIn, Sem.run_bind, run_und hu, Result.andThen_ok, Sem.run_pure]; rfl
      | _ => cases he
    | sl => cases hb with
      | sn l2 c2 => cases he; simp only [Op.equalIn, Sem.run_bind, run_und hu, Result.andThen_ok, Sem.run_pure]; rfl
      | _ => cases he
    | _ => cases he
  | map mk me =>
    rw [hkk] at hk he
    have hu : P.underlying t = some (.map mk me) := hk
    replace he : eqMM a b = some e := he
    cases ha with
    | mn => cases hb with
      | mn => cases he; simp only [Op.equalIn, Sem.run_bind, run_und hu, Result.andThen_ok, Sem.run_pure]; rfl
      | m => cases he; simp only [Op.equalIn, Sem.run_bind, run_und hu, Result.andThen_ok, Sem.run_pure]; rfl
      | _ => cases he
    | m => cases hb with
      | mn => cases he; simp only [Op.equalIn, Sem.run_bind, run_und hu, Result.andThen_ok, Sem.run_pure]; rfl
      | _ => cases he
    | _ => cases he
  | iface em =>
    rw [hkk] at hk he
    obtain ⟨ms, hu, _⟩ := hk
    replace he : eqIf (em || cst) a b = some e := he
    cases ha with
    | ni => cases hb with
      | ni =>
        replace he : (match (em || cst) with | true => some (.c true) | false => none) = some e := he
        cases hx : (em || cst) with
        | false => rw [hx] at he; cases he
        | true => rw [hx] at he; cases he; simp only [Op.equalIn, Sem.run_bind, run_und hu, Result.andThen_ok, Sem.run_pure]; rfl
      | ifc => cases he; simp only [Op.equalIn, Sem.run_bind, run_und hu, Result.andThen_ok, Sem.run_pure]; rfl
      | _ => cases he
    | ifc => cases hb with
      | ni => cases he; simp only [Op.equalIn, Sem.run_bind, run_und hu, Result.andThen_ok, Sem.run_pure]; rfl
      | _ => cases he
    | _ => cases he
  | func =>
    rw [hkk] at hk he
    obtain ⟨x1, x2, x3, hu⟩ := hk
    replace he : eqFn a b = some e := he
    cases ha with
    | nf => cases hb with
      | nf => cases he; simp only [Op.equalIn, Sem.run_bind, run_und hu, Result.andThen_ok, Sem.run_pure]; rfl
      | fn => cases he; simp only [Op.equalIn, Sem.run_bind, run_und hu, Result.andThen_ok, Sem.run_pure]; rfl
      | _ => cases he
    | fn => cases hb with
      | nf => cases he; simp only [Op.equalIn, Sem.run_bind, run_und hu, Result.andThen_ok, Sem.run_pure]; rfl
      | _ => cases he
    | _ => cases he
  | _ => rw [hkk] at he; cases he
theorem veq_snd (hT : TabOk P cx) {a b : V} {a' b' : Value} (ha : VR env M a a') (hb : VR env M b b') (t : TypeId) (cst : Bool) {e : BE} (he : veq (tk cx t) cx cst a b = some e) (w : World) :
    (Op.equal t a' b').run P w = .ok (e.den env) w := veq_snd' hT ha hb t cst he w 9999
theorem cstO_eq (x : Operand) : cstO x = true ↔ ∃ v, x = .const v := by cases x <;> simp [cstO]
/-- The guard before an equality that the VM answers. -/
theorem veq_guard (hT : TabOk P cx) {a b : V} {a' b' : Value} (ha : VR env M a a') (hb : VR env M b b') (op : BinOp) (t : TypeId) (x y : Operand) {e : BE} (he : veq (tk cx t) cx (cstO x || cstO y) a b = some e) (w : World) :
    (eqGuard op t x y a' b').run P w = .ok () w := by
  by_cases h1 : ∃ l, a' = .agg l
  · obtain ⟨l, rfl⟩ := h1
    cases ha
    cases htk : tk cx t <;> (rw [htk] at he; cases he)
  · by_cases h2 : a' = .nilIface
    · subst h2
      cases ha
      by_cases h3 : b' = .nilIface
      · subst h3
        cases hb
        have hk := tk_ok hT t
        cases htk : tk cx t with
        | iface em =>
          rw [htk] at he hk
          obtain ⟨ms, hu, hms⟩ := hk
          replace he : (match (em || (cstO x || cstO y)) with | true => some (.c true) | false => none) = some e := he
          cases hx : (em || (cstO x || cstO y)) with
          | false => rw [hx] at he; cases he
          | true =>
            unfold eqGuard
            cases op <;> try rfl
            all_goals
              cases hcx : cstO x with
              | true => obtain ⟨v, rfl⟩ := (cstO_eq x).1 hcx; rfl
              | false =>
                cases hcy : cstO y with
                | true =>
                  obtain ⟨v, rfl⟩ := (cstO_eq y).1 hcy
                  cases x <;> rfl
                | false =>
                  rw [hcx, hcy] at hx
                  have hem : em = true := by simpa using hx
                  rw [hem] at hms
                  have hg' : ∀ d, (Op.eqGuardIn (d + 1) t .nilIface .nilIface).run P w = .ok false w := by
                    intro d
                    simp only [Op.eqGuardIn, Sem.run_bind, run_und hu, Result.andThen_ok, hms]
                    rfl
                  have hg : (Op.eqGuardIn Op.maxDepth t .nilIface .nilIface).run P w = .ok false w := hg' 9999
                  cases x <;> cases y <;> first
                    | (cases hcx; done)
                    | (cases hcy; done)
                    | (simp [hg])
        | _ => rw [htk] at he; cases he
      · unfold eqGuard
        cases op <;> cases b' <;> first
          | rfl
          | exact absurd rfl h3
    · exact guard_run op t x y (fun e h => h1 ⟨e, h⟩) h2
theorem other_run {a' b' : Value} (hi : ∀ k n, a' ≠ .int k n) (hs : ∀ s, a' ≠ .string s) (hf : ∀ k n, a' ≠ .float k n) (hc : ∀ k n m, a' ≠ .complex k n m) (t : TypeId) :
    binOp .eql t a' b' = (do pure (.bool (← Op.equal t a' b'))) ∧ binOp .neq t a' b' = (do pure (.bool (!(← Op.equal t a' b')))) := by
  cases a' <;> first
    | exact ⟨rfl, rfl⟩
    | exact absurd rfl (hi _ _)
    | exact absurd rfl (hs _)
    | exact absurd rfl (hf _ _)
    | exact absurd rfl (hc _ _ _)
theorem other_snd (hT : TabOk P cx) (r : Rel env n0 M h w) {a b : V} {a' b' : Value} (ha : VR env M a a') (hb : VR env M b b') (op : BinOp) (t : TypeId) (x y : Operand)
    (hi : ∀ k n, a' ≠ .int k n) (hs : ∀ s, a' ≠ .string s) (hf : ∀ k n, a' ≠ .float k n) (hc : ∀ k n m, a' ≠ .complex k n m) :
    SndV env n0 P M h w (binOther op (veq (tk cx t) cx (cstO x || cstO y) a b)) (do eqGuard op t x y a' b'; binOp op t a' b') := by
  obtain ⟨o1, o2⟩ := other_run (b' := b') hi hs hf hc t
  cases hv : veq (tk cx t) cx (cstO x || cstO y) a b with
  | none => cases op <;> exact Snd.bad
  | some e =>
    have hg := fun op => veq_guard hT ha hb op t x y hv w
    have he := veq_snd hT ha hb t _ hv w
    cases op with
    | eql => exact retB_snd (o := some e) r (b := e.den env) (fun e' h => by cases h; rfl) fun _ => bin_run (hg _) (by rw [o1, Sem.run_bind, he]; rfl)
    | neq => exact retNB_snd (o := some e) r (b := e.den env) (fun e' h => by cases h; rfl) fun _ => bin_run (hg _) (by rw [o2, Sem.run_bind, he]; rfl)
    | _ => exact Snd.bad
theorem bin_snd (hT : TabOk P cx) (hp : PcOk env cx.pc) (r : Rel env n0 M h w) {a b : V} {a' b' : Value} (ha : VR env M a a') (hb : VR env M b b') (op : BinOp) (t : TypeId) (x y : Operand) :
    SndV env n0 P M h w (vbin a op b (tk cx t) cx (cstO x || cstO y)) (do eqGuard op t x y a' b'; binOp op t a' b') := by
  cases ha with
  | i k e =>
    cases hb with
    | i l e2 =>
      show SndV env n0 P M h w (binZ op k e l e2 cx (isC e2)) _
      have hg : ∀ op, (eqGuard op t x y (.int k (e.den env)) (.int l (e2.den env))).run P w = .ok () w := fun op => guard_run op t x y (fun _ e => by cases e) (fun e => by cases e)
      have other : ∀ (hs : op ≠ .shl) (hs2 : op ≠ .shr), SndV env n0 P M h w (match keq k l with | true => binI op k e e2 | false => .bad 50) (do eqGuard op t x y (.int k (e.den env)) (.int l (e2.den env)); binOp op t (.int k (e.den env)) (.int l (e2.den env))) := by
        intro h1 h2
        cases hkl : keq k l with
        | false => exact Snd.bad
        | true =>
          have := (keq_eq k l).1 hkl
          subst this
          exact binI_snd r op k e e2 t x y h1 h2
      have old : SndV env n0 P M h w (binII op k e l e2) (do eqGuard op t x y (.int k (e.den env)) (.int l (e2.den env)); binOp op t (.int k (e.den env)) (.int l (e2.den env))) := by
        cases op with
        | shl =>
          show SndV env n0 P M h w (shlI e2 k e) _
          match e2, hg with
          | .c n, hg =>
            show SndV env n0 P M h w (match ileb 0 n with | true => .ret (.i k (mkWrap (mkBin e .shl k (.c n)) k)) | false => .bad 48) _
            cases hz : ileb 0 n with
            | false => exact Snd.bad
            | true =>
              rw [ileb_eq] at hz
              have hn : 0 ≤ n := of_decide_eq_true hz
              exact Snd.ret r (x := .int k (k.wrap (e.den env * 2 ^ (min n.toNat k.bits)))) (bin_run (hg _) (by show (Op.shift .shl k (e.den env) l n).run P w = _; unfold Op.shift; rw [if_neg (by omega)]; rfl)) (VR.i' (by rw [mkWrap_den, mkBin_den, shl_den]; rfl))
          | .v _, _ => exact Snd.bad
          | .wrap _ _, _ => exact Snd.bad
          | .bin .., _ => exact Snd.bad
        | shr =>
          show SndV env n0 P M h w (shrI e2 k e) _
          match e2, hg with
          | .c n, hg =>
            show SndV env n0 P M h w (match ileb 0 n with | true => .ret (.i k (mkBin e .shr k (.c n))) | false => .bad 49) _
            cases hz : ileb 0 n with
            | false => exact Snd.bad
            | true =>
              rw [ileb_eq] at hz
              have hn : 0 ≤ n := of_decide_eq_true hz
              exact Snd.ret r (x := .int k ((e.den env).fdiv (2 ^ (min n.toNat k.bits)))) (bin_run (hg _) (by show (Op.shift .shr k (e.den env) l n).run P w = _; unfold Op.shift; rw [if_neg (by omega)]; rfl)) (VR.i' (by rw [mkBin_den, shr_den]; rfl))
          | .v _, _ => exact Snd.bad
          | .wrap _ _, _ => exact Snd.bad
          | .bin .., _ => exact Snd.bad
        | _ => exact other (by simp) (by simp)
      cases isC e2 with
      | true => exact old
      | false =>
        have le0 : ∀ (b : Bool), cx.dec (.le (.c (.ofNat 0)) e2) = some b → b = true → 0 ≤ e2.den env := by
          intro b hd hb
          subst hb
          have h2 : ileb 0 (e2.den env) = true := dec_ok hp hd
          rw [ileb_eq] at h2
          exact of_decide_eq_true h2
        have ne0 : ∀ (b : Bool), cx.dec (.eq e2 (.c (.ofNat 0))) = some b → b = false → e2.den env ≠ 0 := by
          intro b hd hb
          subst hb
          have h2 : ieqb (e2.den env) 0 = false := dec_ok hp hd
          rw [ieqb_eq] at h2
          simpa using h2
        cases op with
        | shl =>
          show SndV env n0 P M h w (shlY (cx.dec (.le (.c (.ofNat 0)) e2)) k e e2) _
          cases hd : cx.dec (.le (.c (.ofNat 0)) e2) with
          | none => exact Snd.bad
          | some b =>
            cases b with
            | false => exact Snd.bad
            | true =>
              have hn := le0 _ hd rfl
              exact Snd.ret r (x := .int k (k.wrap (e.den env * 2 ^ (min (e2.den env).toNat k.bits)))) (bin_run (hg _) (by show (Op.shift .shl k (e.den env) l (e2.den env)).run P w = _; unfold Op.shift; rw [if_neg (by omega)]; rfl)) (VR.i' (by rw [mkWrap_den, mkBin_den, shl_den]))
        | shr =>
          show SndV env n0 P M h w (shrY (cx.dec (.le (.c (.ofNat 0)) e2)) k e e2) _
          cases hd : cx.dec (.le (.c (.ofNat 0)) e2) with
          | none => exact Snd.bad
          | some b =>
            cases b with
            | false => exact Snd.bad
            | true =>
              have hn := le0 _ hd rfl
              exact Snd.ret r (x := .int k ((e.den env).fdiv (2 ^ (min (e2.den env).toNat k.bits)))) (bin_run (hg _) (by show (Op.shift .shr k (e.den env) l (e2.den env)).run P w = _; unfold Op.shift; rw [if_neg (by omega)]; rfl)) (VR.i' (by rw [mkBin_den, shr_den]))
        | quo =>
          show SndV env n0 P M h w (sameK (.bad 50) (divY (cx.dec (.eq e2 (.c (.ofNat 0)))) k e e2) (keq k l)) _
          cases hkl : keq k l with
          | false => exact Snd.bad
          | true =>
            have := (keq_eq k l).1 hkl
            subst this
            show SndV env n0 P M h w (divY (cx.dec (.eq e2 (.c (.ofNat 0)))) k e e2) _
            cases hd : cx.dec (.eq e2 (.c (.ofNat 0))) with
            | none => exact Snd.bad
            | some b =>
              cases b with
              | true => exact Snd.bad
              | false =>
                have hn := ne0 _ hd rfl
                exact Snd.ret r (x := .int k (k.wrap ((e.den env).tdiv (e2.den env)))) (bin_run (hg _) (by simp [binOp, Op.intDiv, hn])) (VR.i' (by rw [mkWrap_den, mkBin_den]; rfl))
        | rem =>
          show SndV env n0 P M h w (sameK (.bad 50) (remY (cx.dec (.eq e2 (.c (.ofNat 0)))) k e e2) (keq k l)) _
          cases hkl : keq k l with
          | false => exact Snd.bad
          | true =>
            have := (keq_eq k l).1 hkl
            subst this
            show SndV env n0 P M h w (remY (cx.dec (.eq e2 (.c (.ofNat 0)))) k e e2) _
            cases hd : cx.dec (.eq e2 (.c (.ofNat 0))) with
            | none => exact Snd.bad
            | some b =>
              cases b with
              | true => exact Snd.bad
              | false =>
                have hn := ne0 _ hd rfl
                exact Snd.ret r (x := .int k ((e.den env).tmod (e2.den env))) (bin_run (hg _) (by simp [binOp, Op.intDiv, hn])) (VR.i' (by rw [mkBin_den]; rfl))
        | _ => exact old
    | _ => exact Snd.bad
  | s ra sa h1 h2 =>
    cases hb with
    | s rb sb k1 k2 =>
      show SndV env n0 P M h w (binStr op ra (.s rb)) _
      have hg : ∀ op, (eqGuard op t x y (.string sa) (.string sb)).run P w = .ok () w := fun op => guard_run op t x y (fun _ e => by cases e) (fun e => by cases e)
      have hsame := sameStr_str h1 h2 k1 k2
      cases op with
      | add =>
        show SndV env n0 P M h w (match Nat.ble (Nat.add ra.len rb.len) 1073741824 with | true => .ret (.s (RL.app ra rb)) | false => .bad 58) _
        cases hl : Nat.ble (Nat.add ra.len rb.len) 1073741824 with
        | false => exact Snd.bad
        | true =>
          have hl : ra.len + rb.len ≤ 1073741824 := Nat.le_of_ble_eq_true hl
          rw [RL.len_eq, RL.len_eq, ← str_size h1, ← str_size k1] at hl
          refine Snd.ret r (x := .string (sa ++ sb)) (bin_run (hg _) ?_) (VR.s _ _ ?_ ?_)
          · simp only [binOp, Op.stringOp]
            rw [if_neg]
            · rfl
            · have : IntKind.i64.max = 9223372036854775807 := by decide
              omega
          · rw [bytesOf, RL.toList_app, List.map_append]
            show (sa ++ sb).data.toList = bytesOf ra ++ bytesOf rb
            rw [← h1, ← k1]
            simp [ByteArray.data_append]
          · intro n hn
            rw [RL.toList_app, List.mem_append] at hn
            exact hn.elim (h2 n) (k2 n)
      | eql => exact retB_snd (o := some (.c (sameStr ra rb))) r (b := sa.toList == sb.toList) (fun e' h => by cases h; exact hsame) fun _ => bin_run (hg _) (by simp [binOp, Op.stringOp])
      | neq => exact retNB_snd (o := some (.c (sameStr ra rb))) r (b := sa.toList == sb.toList) (fun e' h => by cases h; exact hsame) fun _ => bin_run (hg _) (by simp [binOp, Op.stringOp])
      | _ => exact Snd.bad
    | _ => cases op <;> exact Snd.bad
  | b e => exact other_snd hT r (.b e) hb op t x y (by simp) (by simp) (by simp) (by simp)
  | pn => exact other_snd hT r .pn hb op t x y (by simp) (by simp) (by simp) (by simp)
  | p b o pl hM => exact other_snd hT r (.p b o pl hM) hb op t x y (by simp) (by simp) (by simp) (by simp)
  | sn l c => exact other_snd hT r (.sn l c) hb op t x y (by simp) (by simp) (by simp) (by simp)
  | sl b o l c c' pl a h1 h2 h3 h4 h5 => exact other_snd hT r (.sl b o l c c' pl a h1 h2 h3 h4 h5) hb op t x y (by simp) (by simp) (by simp) (by simp)
  | mn => exact other_snd hT r .mn hb op t x y (by simp) (by simp) (by simp) (by simp)
  | m r' pl hM => exact other_snd hT r (.m r' pl hM) hb op t x y (by simp) (by simp) (by simp) (by simp)
  | fn f a c a' c' h1 h2 => exact other_snd hT r (.fn f a c a' c' h1 h2) hb op t x y (by simp) (by simp) (by simp) (by simp)
  | nf => exact other_snd hT r .nf hb op t x y (by simp) (by simp) (by simp) (by simp)
  | ni => exact other_snd hT r .ni hb op t x y (by simp) (by simp) (by simp) (by simp)
  | ifc t' x' v' h1 => exact other_snd hT r (.ifc t' x' v' h1) hb op t x y (by simp) (by simp) (by simp) (by simp)
  | agg l c h1 => exact other_snd hT r (.agg l c h1) hb op t x y (by simp) (by simp) (by simp) (by simp)
  | tup l c h1 => exact other_snd hT r (.tup l c h1) hb op t x y (by simp) (by simp) (by simp) (by simp)
theorem fieldEq_snd {k : TK} {a b : V} {a' b' : Value} (ha : VR env M a a') (hb : VR env M b b') {t : TypeId} (hk : KOk P t k) {e : BE} (he : fieldEq k a b = some e) (w : World) (d : Nat) :
    (Op.equalIn (d + 1) t a' b').run P w = .ok (e.den env) w := by
  cases k with
  | int kk =>
    cases ha with
    | i l x =>
      replace he : eqI b l x = some e := he
      cases hb with
      | i l2 y =>
        replace he : (match keq l l2 with | true => some (mkEq x y) | false => none) = some e := he
        cases hkl : keq l l2 with
        | false => rw [hkl] at he; cases he
        | true =>
          rw [hkl] at he
          have := (keq_eq l l2).1 hkl
          subst this
          cases he
          rw [run_equalIn_int w d t l kk _ _ hk, mkEq_den]
      | _ => cases he
    | _ => cases he
  | bool =>
    replace he : eqBB a b = some e := he
    cases ha with
    | b ba =>
      cases hb with
      | b bb => rw [run_equalIn_bool' w d t _ _ hk, eqB2_den (a := ba) (b := bb) he]
      | _ => cases he
    | _ => cases he
  | string =>
    cases ha with
    | s ra sa h1 h2 =>
      replace he : eqS b ra = some e := he
      cases hb with
      | s rb sb k1 k2 =>
        cases he
        rw [run_equalIn_string w d t _ _ hk]
        show Result.ok _ w = .ok (sameStr ra rb) w
        rw [sameStr_str h1 h2 k1 k2]
      | _ => cases he
    | _ => cases he
  | _ => cases he
theorem andB2_den {a b e : BE} (h : andB2 b a = some e) : e.den env = (a.den env && b.den env) := by
  cases b with
  | c x => cases x with
    | true => cases h; simp [BE.den]
    | false => cases h; simp [BE.den]
  | _ => cases h
theorem andBE_den {a b e : BE} (h : andBE a b = some e) : e.den env = (a.den env && b.den env) := by
  cases a with
  | c x => cases x with
    | true => cases h; simp [BE.den]
    | false => cases h; simp [BE.den]
  | _ => exact andB2_den h
theorem eqFs_snd (hT : TabOk P cx) {xs ys : List V} {cs ds : Array Value} (hx : VRs env M xs cs.toList) (hy : VRs env M ys ds.toList) (w : World) (d : Nat) : ∀ (fs : List Field) (e : BE),
    eqFs cx (fs.map fun f => (f.type, f.offset, f.name == "_")) xs ys = some e → (Op.eqFields (d + 1) cs ds fs).run P w = .ok (e.den env) w
  | [], e, he => by cases he; rfl
  | f :: fs, e, he => by
    replace he : (match (f.name == "_") with | true => none | false => andO (fieldEqO (tk cx f.type) (nth xs f.offset) (nth ys f.offset)) (eqFs cx (fs.map fun f => (f.type, f.offset, f.name == "_")) xs ys)) = some e := he
    cases hn : (f.name == "_") with
    | true => rw [hn] at he; cases he
    | false =>
      rw [hn] at he
      have hne : f.name ≠ "_" := by simpa using hn
      replace he : andO (fieldEqO (tk cx f.type) (nth xs f.offset) (nth ys f.offset)) (eqFs cx (fs.map fun f => (f.type, f.offset, f.name == "_")) xs ys) = some e := he
      cases hf : fieldEqO (tk cx f.type) (nth xs f.offset) (nth ys f.offset) with
      | none => rw [hf] at he; cases he
      | some e1 =>
        cases hr : eqFs cx (fs.map fun f => (f.type, f.offset, f.name == "_")) xs ys with
        | none => rw [hf, hr] at he; cases he
        | some e2 =>
          rw [hf, hr] at he
          have hand := andBE_den (env := env) (a := e1) (b := e2) he
          have ih := eqFs_snd hT hx hy w d fs e2 hr
          cases hvx : nth xs f.offset with
          | none => rw [hvx] at hf; cases hf
          | some vx =>
            cases hvy : nth ys f.offset with
            | none => rw [hvx, hvy] at hf; cases hf
            | some vy =>
              rw [hvx, hvy] at hf
              replace hf : fieldEq (tk cx f.type) vx vy = some e1 := hf
              rw [nth_eq] at hvx hvy
              obtain ⟨x, x1, x2⟩ := hx.get _ _ hvx
              obtain ⟨y, y1, y2⟩ := hy.get _ _ hvy
              have x1' : cs[f.offset]? = some x := by simpa using x1
              have y1' : ds[f.offset]? = some y := by simpa using y1
              have hk := tk_ok hT f.type
              have nag : (isAgg f.type).run P w = .ok false w := by
                unfold isAgg
                rw [Sem.run_bind]
                cases hkk : tk cx f.type with
                | int k => rw [hkk] at hk; rw [run_und hk]; rfl
                | bool => rw [hkk] at hk; rw [run_und hk]; rfl
                | string => rw [hkk] at hk; rw [run_und hk]; rfl
                | _ => rw [hkk] at hf; cases hf
              have px : (part f.type cs f.offset).run P w = .ok x w := by
                simp only [part, Sem.run_bind, nag, Result.andThen_ok, Bool.false_eq_true, if_false, x1', Sem.run_pure]
              have py : (part f.type ds f.offset).run P w = .ok y w := by
                simp only [part, Sem.run_bind, nag, Result.andThen_ok, Bool.false_eq_true, if_false, y1', Sem.run_pure]
              have hq := fieldEq_snd x2 y2 hk hf w d
              simp only [Op.eqFields, ne_eq, hne, not_false_eq_true, if_true, Sem.run_bind, px, py, hq, Result.andThen_ok]
              rw [hand]
              cases he1 : e1.den env with
              | true => simp only [Bool.not_true, Bool.false_eq_true, if_false, Bool.true_and]; exact ih
              | false => simp only [Bool.not_false, if_true, Bool.false_and, Sem.run_pure]
theorem binG_snd (hT : TabOk P cx) (hp : PcOk env cx.pc) (r : Rel env n0 M h w) {a b : V} {a' b' : Value} (ha : VR env M a a') (hb : VR env M b b') (op : BinOp) (t : TypeId) (x y : Operand) :
    SndV env n0 P M h w (vbinG a op b t cx (cstO x || cstO y)) (do eqGuard op t x y a' b'; binOp op t a' b') := by
  cases ha with
  | agg xs cs hx =>
    show SndV env n0 P M h w (binOther op (eqStO (tiEq (cx.ty.get t)) (tk cx t) cx xs b)) _
    cases he : eqStO (tiEq (cx.ty.get t)) (tk cx t) cx xs b with
    | none => cases op <;> exact Snd.bad
    | some e =>
      have main : ∃ ds, b' = .agg ds ∧ (∀ op, (eqGuard op t x y (.agg cs) b').run P w = .ok () w) ∧ (Op.equalIn 10000 t (.agg cs) b').run P w = .ok (e.den env) w := by
        cases hti : cx.ty.get t with
        | none => rw [hti] at he; cases he
        | some ti =>
          rw [hti] at he
          replace he : (match ti.eq with | true => eqSt (tk cx t) cx xs b | false => none) = some e := he
          cases hq : ti.eq with
          | false => rw [hq] at he; cases he
          | true =>
            rw [hq] at he
            replace he : eqSt (tk cx t) cx xs b = some e := he
            obtain ⟨g1, g2⟩ := (hT t ti hti).eq hq
            have hk := tk_ok hT t
            cases hkk : tk cx t with
            | struct fs =>
              rw [hkk] at hk he
              obtain ⟨fields, hu, hfs⟩ := hk
              cases hb with
              | agg ys ds hy =>
                replace he : eqFs cx fs xs ys = some e := he
                subst hfs
                have hfo : P.fieldsOf t = fields := by unfold Program.fieldsOf; rw [hu]
                refine ⟨ds, rfl, fun op => run_eqGuard_agg w op t x y cs ds g2, ?_⟩
                rw [run_equalIn_struct w 9999 t cs ds (by rw [hfo]; exact hu) g1, hfo]
                exact eqFs_snd hT hx hy w 9998 fields.toList e he
              | _ => cases he
            | _ => rw [hkk] at he; cases he
      obtain ⟨ds, rfl, hg, hq⟩ := main
      cases op with
      | eql => exact retB_snd (o := some e) r (b := e.den env) (fun e' h => by cases h; rfl) fun _ => bin_run (hg _) (by rw [run_eql_struct, hq]; rfl)
      | neq => exact retNB_snd (o := some e) r (b := e.den env) (fun e' h => by cases h; rfl) fun _ => bin_run (hg _) (by rw [run_neq_struct, hq]; rfl)
      | _ => exact Snd.bad
  | i k e => exact bin_snd hT hp r (.i k e) hb op t x y
  | s ra sa h1 h2 => exact bin_snd hT hp r (.s ra sa h1 h2) hb op t x y
  | b e => exact bin_snd hT hp r (.b e) hb op t x y
  | pn => exact bin_snd hT hp r .pn hb op t x y
  | p b o pl hM => exact bin_snd hT hp r (.p b o pl hM) hb op t x y
  | sn l c => exact bin_snd hT hp r (.sn l c) hb op t x y
  | sl b o l c c' pl a h1 h2 h3 h4 h5 => exact bin_snd hT hp r (.sl b o l c c' pl a h1 h2 h3 h4 h5) hb op t x y
  | mn => exact bin_snd hT hp r .mn hb op t x y
  | m r' pl hM => exact bin_snd hT hp r (.m r' pl hM) hb op t x y
  | fn f a c a' c' h1 h2 => exact bin_snd hT hp r (.fn f a c a' c' h1 h2) hb op t x y
  | nf => exact bin_snd hT hp r .nf hb op t x y
  | ni => exact bin_snd hT hp r .ni hb op t x y
  | ifc t' x' v' h1 => exact bin_snd hT hp r (.ifc t' x' v' h1) hb op t x y
  | tup l c h1 => exact bin_snd hT hp r (.tup l c h1) hb op t x y
theorem un_snd (r : Rel env n0 M h w) {a : V} {a' : Value} (ha : VR env M a a') (op : UnOp) : SndV env n0 P M h w (vun a op) (Op.unary op a') := by
  cases ha with
  | i k e =>
    cases op with
    | neg => exact Snd.ret r (x := .int k (k.wrap (0 - e.den env))) rfl (VR.i' (by rw [mkWrap_den, mkBin_den]; show k.wrap (isub _ _) = _; rw [isub_eq]; rfl))
    | xor =>
      refine Snd.ret r (x := .int k _) (s := Op.unary .xor (.int k (e.den env))) rfl (VR.i' ?_)
      rw [mkBin_den]
      show xorF k _ _ = _
      rw [xorF_eq]
      cases k <;> rfl
    | _ => exact Snd.bad
  | b e =>
    cases op with
    | not => exact Snd.ret r (x := .bool (!(e.den env))) rfl (VR.b' (mkNot_den env e))
    | _ => exact Snd.bad
  | _ => exact Snd.bad
end ops
end Go.Vm
namespace Go.Vm
open Go.RowKit
section ops
variable {env : Nat → Int} {n0 : Old} {P : Program} {M : Mp} {h : Tr Ob} {w : World} {cx : Cx}

theorem getObj_run {b : Nat} {o : Obj} (hb : w.heap[b]? = some o) (hc : ∀ c e f, o ≠ .cells c e f) : (getObj b).run P w = .ok o w := by
  show Sem.run P (.getObj b .pure) w = _
  simp only [Sem.run, hb]
theorem Rel.map_at (r : Rel env n0 M h w) {b : Nat} {es : List (V × V)} (e : h.get b = some (.map es)) : ∃ pl ms clock, M b = some pl ∧ w.heap[pl.blk]? = some (.map ms clock) ∧
    VRs env M (es.map (·.1)) (ms.toList.map (·.key)) ∧ VRs env M (es.map (·.2)) (ms.toList.map (·.val)) ∧ (RO ≤ b → n0.n ≤ pl.blk) := by
  obtain ⟨pl, h1, h2, h3, _, _⟩ := r.row b _ e
  cases h2 with
  | map es ms clock a1 a2 a3 => exact ⟨pl, ms, clock, h1, a1, a2, a3, fun hb => (h3 hb).1⟩
theorem len_snd (hT : TabOk P cx) (r : Rel env n0 M h w) {v : V} {x : Value} (hv : VR env M v x) {tys : Array TypeId} {t : TypeId} {rest : List TypeId} (hty : tys.toList = t :: rest) (ty : TypeId) :
    SndV env n0 P M h w (vlen (tk cx t) v) (Builtin.len_ tys ty #[x]) := by
  have h0 : tys[0]? = some t := by rw [← Array.getElem?_toList, hty]; rfl
  have hk := tk_ok hT t
  cases hkk : tk cx t with
  | slice e =>
    rw [hkk] at hk
    have hu : P.underlying t = some (.slice e) := hk
    cases hv with
    | sn l c => exact Snd.ret r (by simp only [Builtin.len_, h0, List.getElem?_toArray, List.getElem?_cons_zero, Sem.run_bind, run_und hu, Result.andThen_ok, Sem.run_pure]; rfl) (VR.i .i64 (.c (.ofNat l)))
    | sl b o l c c' => exact Snd.ret r (by simp only [Builtin.len_, h0, List.getElem?_toArray, List.getElem?_cons_zero, Sem.run_bind, run_und hu, Result.andThen_ok, Sem.run_pure]; rfl) (VR.i .i64 (.c (.ofNat l)))
    | _ => exact Snd.bad
  | string =>
    rw [hkk] at hk
    have hu : P.underlying t = some .string := hk
    cases hv with
    | s rr s h1 h2 => exact Snd.ret r (x := goInt s.size) (by simp only [Builtin.len_, h0, List.getElem?_toArray, List.getElem?_cons_zero, Sem.run_bind, run_und hu, Result.andThen_ok, Sem.run_pure]) (VR.i' (by show ((rr.len : Nat) : Int) = _; rw [RL.len_eq, ← str_size h1]))
    | _ => exact Snd.bad
  | array n e =>
    rw [hkk] at hk
    have hu : P.underlying t = some (.array n e) := hk
    exact Snd.ret r (x := goInt n) (by simp only [Builtin.len_, h0, List.getElem?_toArray, List.getElem?_cons_zero, Sem.run_bind, run_und hu, Result.andThen_ok, Sem.run_pure]) (VR.i .i64 (.c (.ofNat n)))
  | map mk me =>
    rw [hkk] at hk
    have hu : P.underlying t = some (.map mk me) := hk
    cases hv with
    | mn => exact Snd.ret r (x := goInt 0) (by simp only [Builtin.len_, h0, List.getElem?_toArray, List.getElem?_cons_zero, Sem.run_bind, run_und hu, Result.andThen_ok, Sem.run_pure]) (VR.i .i64 (.c (.ofNat 0)))
    | m b pl hM =>
      intro nx lg a h' nx' lg' hn er
      obtain ⟨es, g1, g2⟩ := run_getM er
      obtain ⟨e4, e5⟩ := run_ret g2
      cases e5; subst e4
      obtain ⟨pl', ms, clock, m1, m2, m3, m4, m5⟩ := r.map_at g1
      rw [hM] at m1; cases m1
      refine ⟨M, w, goInt ms.size, ?_, M.le_refl, r, VR.i' ?_, Below.refl _ _, hn⟩
      · simp only [Builtin.len_, h0, List.getElem?_toArray, List.getElem?_cons_zero, Sem.run_bind, run_und hu, Result.andThen_ok, getObj_run m2 (by simp), Sem.run_pure]
      · have := m3.length
        simp only [List.length_map, Array.length_toList] at this
        show ((es.length : Nat) : Int) = _
        rw [this]
    | _ => exact Snd.bad
  | _ => exact Snd.bad
theorem cap_snd (hT : TabOk P cx) (r : Rel env n0 M h w) {v : V} {x : Value} (hv : VR env M v x) {tys : Array TypeId} {t : TypeId} {rest : List TypeId} (hty : tys.toList = t :: rest) (ty : TypeId) :
    SndV env n0 P M h w (vcap (tk cx t) cx v) (Builtin.cap_ tys ty #[x]) := by
  have h0 : tys[0]? = some t := by rw [← Array.getElem?_toList, hty]; rfl
  have hk := tk_ok hT t
  cases hkk : tk cx t with
  | slice e =>
    rw [hkk] at hk
    have hu : P.underlying t = some (.slice e) := hk
    show SndV env n0 P M h w (capSl v (tsize cx e)) _
    cases hv with
    | sn l c => exact Snd.ret r (by simp only [Builtin.cap_, h0, List.getElem?_toArray, List.getElem?_cons_zero, Sem.run_bind, run_und hu, Result.andThen_ok, Sem.run_pure]; rfl) (VR.i .i64 (.c (.ofNat c)))
    | sl b o l c c' pl a hM h1 h2 h3 h4 =>
      cases hts : tsize cx e with
      | none => exact Snd.bad
      | some n =>
        intro nx lg a' h' nx' lg' hn er
        obtain ⟨el, es, ex, cs, g1, g2⟩ := run_info' er
        have g2' : ((match (Nat.beq n es && Nat.ble 1 n) && (ex && Nat.beq (o + c * n) cs.toList.length) with | true => .ret (ofNatI c) | false => .bad 70 : Pr V)).run h nx (lg.rd b) = .ok a' (.mk h' nx' lg') := g2
        cases hb : ((Nat.beq n es && Nat.ble 1 n) && (ex && Nat.beq (o + c * n) cs.toList.length)) with
        | false => rw [hb] at g2'; exact (run_bad g2').elim
        | true =>
          rw [hb] at g2'
          obtain ⟨e4, e5⟩ := run_ret g2'
          cases e5; subst e4
          obtain ⟨b1, b2⟩ := and_true hb
          obtain ⟨b3, b4⟩ := and_true b1
          obtain ⟨b5, b6⟩ := and_true b2
          have b3 : n = es := Nat.eq_of_beq_eq_true b3
          have b4 : 1 ≤ n := Nat.le_of_ble_eq_true b4
          have b6 : o + c * n = cs.toList.length := Nat.eq_of_beq_eq_true b6
          obtain ⟨pl', c2, el', fz, m1, m2, m3, m4, m5⟩ := r.live g1
          rw [hM] at m1; cases m1
          have hf := m3.full b5
          have hcc : c' = c := by
            have : c' * n ≤ c * n := by rw [m2, ← b3] at h2; omega
            have := Nat.le_of_mul_le_mul_right this (by omega)
            omega
          subst hcc
          refine ⟨M, w, goInt c', ?_, M.le_refl, r, VR.i .i64 (.c (.ofNat c')), Below.refl _ _, hn⟩
          simp only [Builtin.cap_, h0, List.getElem?_toArray, List.getElem?_cons_zero, Sem.run_bind, run_und hu, Result.andThen_ok, Sem.run_pure]
    | _ => exact Snd.bad
  | _ => exact Snd.bad

/-! ### maps -/
theorem clear_snd (hT : TabOk P cx) (r : Rel env n0 M h w) {v : V} {x : Value} (hv : VR env M v x) {tys : Array TypeId} {t : TypeId} {rest : List TypeId} (hty : tys.toList = t :: rest) (ty : TypeId) :
    SndV env n0 P M h w (vclear (tk cx t) cx v) (Builtin.clear_ tys ty #[x]) := by
  have h0 : tys[0]? = some t := by rw [← Array.getElem?_toList, hty]; rfl
  have hk := tk_ok hT t
  cases hkk : tk cx t with
  | slice e =>
    rw [hkk] at hk
    have hu : P.underlying t = some (.slice e) := hk
    show SndV env n0 P M h w (clrSl v cx e) _
    cases hv with
    | sn l c => exact Snd.ret r (by simp only [Builtin.clear_, h0, List.getElem?_toArray, List.getElem?_cons_zero, Sem.run_bind, run_und hu, Result.andThen_ok, Sem.run_pure]) (.tup [] #[] .nil)
    | sl b o l c c' pl a hM h1 h2 h3 h4 =>
      show SndV env n0 P M h w (clrN (tiZero (cx.ty.get e)) b o l) _
      cases l with
      | zero => exact Snd.ret r (by simp only [Builtin.clear_, h0, List.getElem?_toArray, List.getElem?_cons_zero, Sem.run_bind, run_und hu, Result.andThen_ok, Sem.run_pure]) (.tup [] #[] .nil)
      | succ n =>
        show SndV env n0 P M h w (clrS (tiZero (cx.ty.get e)) b o (n + 1)) _
        cases ht : cx.ty.get e with
        | none => exact Snd.bad
        | some ti =>
          show SndV env n0 P M h w (clrS ti.zero b o (n + 1)) _
          cases hz : ti.zero with
          | none => exact Snd.bad
          | some z =>
            obtain ⟨zx, hzr, hzv⟩ := (hT e ti ht).run_zero (w := w) hz
            intro nx lg ar h' nx' lg' hn er
            obtain ⟨el, es, ex, cs, g1, g2, g3, g4, g5⟩ := run_sets er
            obtain ⟨e4, e5⟩ := run_ret g5
            cases e5; subst e4
            obtain ⟨w', s1, s2, s3⟩ := sets_write (P := P) r g1 hM g2 g3 g4 (rep_zeros (hzv env M) (n + 1))
            refine ⟨M, w', .tuple #[], ?_, M.le_refl, s2, .tup [] #[] .nil, s3, hn⟩
            have ea : a = ⟨pl.blk, pl.off + o, none⟩ := by
              rcases h3 with e0 | e0
              · exact e0
              · omega
            subst ea
            have hl : (Builtin.clear_ tys ty #[.slice (some ⟨pl.blk, pl.off + o, none⟩) (n + 1) c']).run P w = ((storeCells ⟨pl.blk, pl.off + o, none⟩ (Builtin.zeroCells zx.cells (n + 1)).toList).run P w).andThen fun _ w' => .ok (.tuple #[]) w' := by
              simp only [Builtin.clear_, h0, List.getElem?_toArray, List.getElem?_cons_zero, Sem.run_bind, run_und hu, Result.andThen_ok, hzr, Sem.run_pure]
            rw [hl, s1, Result.andThen_ok]
    | _ => exact Snd.bad
  | _ => exact Snd.bad
theorem keyEq_ok {k x : V} {k' x' : Value} (hk : VR env M k k') (hx : VR env M x x') {b : Bool} (e : keyEq k x = some (.c b)) {t : TK} (hf : keyFits t k = true) {d : TypeDesc} {ty : TypeId} (hd : P.underlying ty = some d) (hKO : KOk P ty t) :
    Instr.sameNow d k' x' = some b ∧ (b = true → Instr.sameBits 10000 x' k' = true) := by
  cases t with
  | int kk =>
    have hd' : P.underlying ty = some (.int kk) := hKO
    rw [hd] at hd'; cases hd'
    cases hk with
    | i l a =>
      cases hx with
      | i m c =>
        replace e : (match keq l m with | true => some (mkEq a c) | false => none) = some (.c b) := e
        cases hkq : keq l m with
        | false => rw [hkq] at e; cases e
        | true =>
          rw [hkq] at e
          have := (keq_eq l m).1 hkq
          subst this
          replace e := Option.some.inj e
          have hden := mkEq_den env a c
          rw [e] at hden
          have hden : b = (a.den env == c.den env) := hden
          refine ⟨?_, ?_⟩
          · simp [Instr.sameNow, hden]
          · intro hb
            rw [hb] at hden
            have : a.den env = c.den env := by simpa using hden.symm
            rw [this]
            show (l == l && c.den env == c.den env) = true
            simp
      | _ => cases e
    | _ => cases hf
  | string =>
    have hd' : P.underlying ty = some .string := hKO
    rw [hd] at hd'; cases hd'
    cases hk with
    | s a s h1 h2 =>
      cases hx with
      | s c u k1 k2 =>
        replace e : some (.c (sameStr a c)) = some (BE.c b) := e
        cases e
        have hs := sameStr_str h1 h2 k1 k2
        rw [← beq_toListBytes] at hs
        refine ⟨?_, ?_⟩
        · simp [Instr.sameNow, hs]
        · intro hb
          rw [hs, beq_toListBytes] at hb
          have : s.toList = u.toList := by simpa using hb
          show (u == s) = true
          rw [beq_toListBytes, this]; simp
      | _ => cases e
    | _ => cases hf
  | _ => cases hf
theorem findM_ok {k : V} {k' : Value} (hk : VR env M k k') {t : TK} (hf : keyFits t k = true) {d : TypeDesc} {ty : TypeId} (hd : P.underlying ty = some d) (hKO : KOk P ty t) :
    ∀ (es : List (V × V)) (ms : List MapEntry) (i : Nat) (res : Option (Nat × V)), VRs env M (es.map (·.1)) (ms.map (·.key)) → VRs env M (es.map (·.2)) (ms.map (·.val)) → findM k es i = some res →
      match res with
      | none => Instr.findNow d k' ms i = some none
      | some (j, v) => ∃ x, Instr.findNow d k' ms i = some (some (j, x)) ∧ VR env M v x ∧ i ≤ j ∧ ∃ m, ms[j - i]? = some m ∧ Instr.sameBits 10000 m.key k' = true
  | [], [], i, res, _, _, e => by cases e; rfl
  | [], _ :: _, _, _, h1, _, _ => by cases h1
  | _ :: _, [], _, _, h1, _, _ => by cases h1
  | (kx, v) :: es, m :: ms, i, res, h1, h2, e => by
    cases h1 with
    | cons _ _ _ _ h1a h1b =>
      cases h2 with
      | cons _ _ _ _ h2a h2b =>
        simp only [findM] at e
        cases hq : keyEq k kx with
        | none => rw [hq] at e; cases e
        | some be =>
          rw [hq] at e
          match be, hq, e with
          | .c true, hq, e =>
            cases e
            obtain ⟨s1, s2⟩ := keyEq_ok hk h1a hq hf hd hKO
            refine ⟨m.val, ?_, h2a, Nat.le_refl _, m, by simp, s2 rfl⟩
            simp only [Instr.findNow, s1]
          | .c false, hq, e =>
            obtain ⟨s1, s2⟩ := keyEq_ok hk h1a hq hf hd hKO
            have ih := findM_ok hk hf hd hKO es ms (i + 1) res h1b h2b e
            have hfn : Instr.findNow d k' (m :: ms) i = Instr.findNow d k' ms (i + 1) := by simp only [Instr.findNow, s1]
            match res, ih with
            | none, ih => rw [hfn]; exact ih
            | some (j, v), ih =>
              obtain ⟨x, i1, i2, i3, m', i4, i5⟩ := ih
              refine ⟨x, by rw [hfn]; exact i1, i2, by omega, m', ?_, i5⟩
              rw [show j - i = (j - (i + 1)) + 1 by omega]
              exact i4
          | .lt _ _, _, e => cases e
          | .le _ _, _, e => cases e
          | .eq _ _, _, e => cases e
          | .not _, _, e => cases e
theorem checkKey_run (empty : Bool) {k : V} {k' : Value} (hk : VR env M k k') {t : TK} (hf : keyFits t k = true) {ty : TypeId} (hKO : KOk P ty t) (n : Nat) : (Instr.checkKey empty (n + 1) ty k').run P w = .ok () w := by
  cases t with
  | int kk =>
    have hd' : P.underlying ty = some (.int kk) := hKO
    simp only [Instr.checkKey, Sem.run_bind, run_und hd', Result.andThen_ok]; rfl
  | string =>
    have hd' : P.underlying ty = some .string := hKO
    simp only [Instr.checkKey, Sem.run_bind, run_und hd', Result.andThen_ok]; rfl
  | _ => cases hf
theorem keyFits_und {k : V} {t : TK} (hf : keyFits t k = true) {ty : TypeId} (hKO : KOk P ty t) : ∃ d, P.underlying ty = some d := by
  cases t with
  | int kk => exact ⟨_, hKO⟩
  | string => exact ⟨_, hKO⟩
  | _ => cases hf
theorem lkOut_snd (r : Rel env n0 M h w) {v : V} {x : Value} (hv : VR env M v x) (ok is : Bool) {s : Sem Value} (hs : s.run P w = .ok (if ok then .tuple #[x, .bool is] else x) w) : SndV env n0 P M h w (lkOut ok v is) s := by
  cases ok with
  | true => exact Snd.ret r (x := .tuple #[x, .bool is]) hs (VR.tup _ _ (.cons _ _ _ _ hv (.one (.b (.c is)))))
  | false => exact Snd.ret r (by simpa using hs) hv
theorem lookup_snd (hT : TabOk P cx) (r : Rel env n0 M h w) {m k : V} {m' k' : Value} (hm : VR env M m m') (hk : VR env M k k') (t : TypeId) (ok : Bool) :
    SndV env n0 P M h w (vlookup (tk cx t) cx m k ok) (Instr.lookup t m' k' ok) := by
  have hkt := tk_ok hT t
  cases hkk : tk cx t with
  | map kt el =>
    rw [hkk] at hkt
    have hu : P.underlying t = some (.map kt el) := hkt
    show SndV env n0 P M h w (match tiZero (cx.ty.get el) with | some z => (match keyFits (tk cx kt) k with | true => lkM m z k ok | false => .bad 65) | none => .bad 65) _
    cases hte : cx.ty.get el with
    | none => exact Snd.bad
    | some ti =>
      show SndV env n0 P M h w (match ti.zero with | some z => (match keyFits (tk cx kt) k with | true => lkM m z k ok | false => .bad 65) | none => .bad 65) _
      cases hz : ti.zero with
      | none => exact Snd.bad
      | some z =>
        show SndV env n0 P M h w (match keyFits (tk cx kt) k with | true => lkM m z k ok | false => .bad 65) _
        cases hf : keyFits (tk cx kt) k with
        | false => exact Snd.bad
        | true =>
          have hKO := tk_ok hT kt
          obtain ⟨d, hd⟩ := keyFits_und hf hKO
          obtain ⟨zx, z1, z2⟩ := (hT el ti hte).run_zero (w := w) hz
          have hck : ∀ empty, (Instr.checkKey empty 10000 kt k').run P w = .ok () w := fun empty => checkKey_run empty hk hf hKO 9999
          cases hm with
          | mn =>
            refine lkOut_snd r (z2 env M) ok false ?_
            simp only [Instr.lookup, Sem.run_bind, run_und hu, Result.andThen_ok, Sem.run_pure, hck, Instr.findKey, run_und hd, Instr.findNow, z1]
          | m b pl hM =>
            intro nx lg a h' nx' lg' hn er
            obtain ⟨es, g1, g2⟩ := run_getM er
            obtain ⟨pl', ms, clock, m1, m2, m3, m4, m5⟩ := r.map_at g1
            rw [hM] at m1; cases m1
            have hgo := getObj_run (P := P) m2 (by simp)
            cases hfm : findM k es 0 with
            | none => rw [hfm] at g2; exact (run_bad g2).elim
            | some res =>
              rw [hfm] at g2
              have hfo := findM_ok hk hf hd hKO es ms.toList 0 res m3 m4 hfm
              match res, hfo, g2 with
              | none, hfo, g2 =>
                refine lkOut_snd (P := P) r (z2 env M) ok false (s := Instr.lookup t (.map (some pl.blk)) k' ok) ?_ nx _ a h' nx' lg' hn g2
                simp only [Instr.lookup, Sem.run_bind, run_und hu, Result.andThen_ok, Sem.run_pure, hck, hgo, Instr.findKey, run_und hd, hfo, z1]
              | some (j, v), hfo, g2 =>
                obtain ⟨x, i1, i2, _⟩ := hfo
                refine lkOut_snd (P := P) r i2 ok true (s := Instr.lookup t (.map (some pl.blk)) k' ok) ?_ nx _ a h' nx' lg' hn g2
                simp only [Instr.lookup, Sem.run_bind, run_und hu, Result.andThen_ok, Sem.run_pure, hck, hgo, Instr.findKey, run_und hd, i1]
          | _ => exact Snd.bad
  | _ => exact Snd.bad
theorem VRs.set : ∀ {l : List V} {l' : List Value} (_ : VRs env M l l') (j : Nat) {v : V} {x : Value} (_ : VR env M v x), VRs env M (l.set j v) (l'.set j x)
  | _, _, .nil, _, _, _, _ => .nil
  | _, _, .cons _ _ _ _ _ h, 0, _, _, hv => .cons _ _ _ _ hv h
  | _, _, .cons _ _ _ _ hx h, j + 1, _, _, hv => .cons _ _ _ _ hx (VRs.set h j hv)
theorem setAt_keys (k v : V) : ∀ (es : List (V × V)) (j : Nat), (setAt es j k v).map (·.1) = (es.map (·.1)).set j k
  | [], _ => rfl
  | _ :: _, 0 => rfl
  | x :: es, j + 1 => by
    show x.1 :: (setAt es j k v).map (·.1) = _
    rw [setAt_keys k v es j]; rfl
theorem setAt_vals (k v : V) : ∀ (es : List (V × V)) (j : Nat), (setAt es j k v).map (·.2) = (es.map (·.2)).set j v
  | [], _ => rfl
  | _ :: _, 0 => rfl
  | x :: es, j + 1 => by
    show x.2 :: (setAt es j k v).map (·.2) = _
    rw [setAt_vals k v es j]; rfl
theorem modify_map {α β : Type} (ms : Array α) (j : Nat) (f : α → α) (g : α → β) (b : β) (hg : ∀ a, g (f a) = b) : (ms.modify j f).toList.map g = (ms.toList.map g).set j b := by
  apply List.ext_getElem?
  intro i
  rw [List.getElem?_map, Array.getElem?_toList, Array.getElem?_modify, List.getElem?_set, List.getElem?_map, Array.getElem?_toList]
  by_cases hij : j = i
  · subst hij
    rw [if_pos rfl, if_pos rfl]
    cases hm : ms[j]? with
    | none =>
      have : ¬ j < ms.size := by
        intro h
        rw [Array.getElem?_eq_getElem h] at hm; cases hm
      rw [if_neg (by simpa using this)]; rfl
    | some a =>
      have hj : j < ms.size := by
        rcases Nat.lt_or_ge j ms.size with h | h
        · exact h
        · rw [Array.getElem?_eq_none h] at hm; cases hm
      rw [if_pos (by simpa using hj)]
      simp [hg]
  · rw [if_neg hij, if_neg hij]
theorem setObj_run {b : Nat} {ms : Array MapEntry} {clock : Nat} (hb : w.heap[b]? = some (.map ms clock)) (o : Obj) : (setObj b o).run P w = .ok () { w with heap := w.heap.setIfInBounds b o } := by
  show Sem.run P (.setObj b o (.pure ())) w = _
  simp only [Sem.run, hb]
theorem mapUpdate_snd (hT : TabOk P cx) (r : Rel env n0 M h w) {m k v : V} {m' k' x : Value} (hm : VR env M m m') (hk : VR env M k k') (hv : VR env M v x) (t : TypeId) :
    SndU env n0 P M h w (vmapUpdate (tk cx t) cx m k v) (Instr.mapUpdate t m' k' x) := by
  have hkt := tk_ok hT t
  cases hkk : tk cx t with
  | map kt el =>
    rw [hkk] at hkt
    have hu : P.underlying t = some (.map kt el) := hkt
    show SndU env n0 P M h w (match keyFits (tk cx kt) k with | true => muM m k v | false => .bad 68) _
    cases hf : keyFits (tk cx kt) k with
    | false => exact Snd.badU
    | true =>
      have hKO := tk_ok hT kt
      obtain ⟨d, hd⟩ := keyFits_und hf hKO
      have hck : ∀ empty, (Instr.checkKey empty 10000 kt k').run P w = .ok () w := fun empty => checkKey_run empty hk hf hKO 9999
      cases hm with
      | m b pl hM =>
        intro nx lg a h' nx' lg' hn er
        obtain ⟨es, g1, g2⟩ := run_getM er
        obtain ⟨pl', ms, clock, m1, m2, m3, m4, m5⟩ := r.map_at g1
        rw [hM] at m1; cases m1
        have hgo := getObj_run (P := P) m2 (by simp)
        cases hfm : findM k es 0 with
        | none => rw [hfm] at g2; exact (run_bad g2).elim
        | some res =>
          rw [hfm] at g2
          have hfo := findM_ok hk hf hd hKO es ms.toList 0 res m3 m4 hfm
          match res, hfo, g2 with
          | none, hfo, g2 =>
            obtain ⟨es0, q1, q2, q3⟩ := run_setM g2
            obtain ⟨_, e5⟩ := run_ret q3
            cases e5
            refine ⟨M, { w with heap := w.heap.setIfInBounds pl.blk (.map (ms.push { key := k', val := x, born := clock }) (clock + 1)) }, (), ?_, M.le_refl, r.setMap q1 q2 hM ?_ ?_, trivial, setMap_below _ _ (m5 q2), hn⟩
            · simp only [Instr.mapUpdate, Sem.run_bind, run_und hu, Result.andThen_ok, Sem.run_pure, hck, hgo, Instr.findKey, run_und hd, hfo, setObj_run m2]
            · rw [List.map_append, Array.toList_push, List.map_append]
              exact m3.append (.one hk)
            · rw [List.map_append, Array.toList_push, List.map_append]
              exact m4.append (.one hv)
          | some (j, v'), hfo, g2 =>
            obtain ⟨x', i1, i2, i3, me, i4, i5⟩ := hfo
            obtain ⟨es0, q1, q2, q3⟩ := run_setM g2
            obtain ⟨_, e5⟩ := run_ret q3
            cases e5
            have hold : ((ms[j]?).map (·.key)).getD k' = me.key := by
              have : ms[j]? = some me := by simpa using i4
              rw [this]; rfl
            refine ⟨M, { w with heap := w.heap.setIfInBounds pl.blk (.map (ms.modify j fun e => { e with key := k', val := x }) clock) }, (), ?_, M.le_refl, r.setMap q1 q2 hM ?_ ?_, trivial, setMap_below _ _ (m5 q2), hn⟩
            · simp only [Instr.mapUpdate, Sem.run_bind, run_und hu, Result.andThen_ok, Sem.run_pure, hck, hgo, Instr.findKey, run_und hd, i1, hold, Instr.keyThatStays]
              rw [if_pos i5]
              simp only [Sem.run_pure, Result.andThen_ok, setObj_run m2]
            · rw [setAt_keys, modify_map _ _ _ _ k' (fun _ => rfl)]
              exact m3.set j hk
            · rw [setAt_vals, modify_map _ _ _ _ x (fun _ => rfl)]
              exact m4.set j hv
      | _ => exact Snd.badU
  | _ => exact Snd.badU
theorem eraseAt_eq : ∀ (es : List (V × V)) (j : Nat), eraseAt es j = es.eraseIdx j
  | [], _ => rfl
  | _ :: _, 0 => rfl
  | x :: r, j + 1 => by rw [List.eraseIdx_cons_succ, ← eraseAt_eq r j]; rfl
theorem VRs.eraseIdx : ∀ {l : List V} {l' : List Value} (_ : VRs env M l l') (j : Nat), VRs env M (l.eraseIdx j) (l'.eraseIdx j)
  | _, _, .nil, _ => .nil
  | _, _, .cons _ _ _ _ _ h, 0 => h
  | _, _, .cons _ _ _ _ hx h, j + 1 => .cons _ _ _ _ hx (VRs.eraseIdx h j)
theorem map_eraseIdx {α β : Type} (g : α → β) : ∀ (l : List α) (j : Nat), (l.eraseIdx j).map g = (l.map g).eraseIdx j
  | [], _ => rfl
  | _ :: _, 0 => rfl
  | x :: r, j + 1 => by simp only [List.eraseIdx_cons_succ, List.map_cons, map_eraseIdx g r j]
theorem delete_snd (hT : TabOk P cx) (r : Rel env n0 M h w) {m k : V} {m' k' : Value} (hm : VR env M m m') (hk : VR env M k k') {tys : Array TypeId} {t : TypeId} {rest : List TypeId} (hty : tys.toList = t :: rest) (ty : TypeId) :
    SndV env n0 P M h w (vdelete (tk cx t) cx m k) (Builtin.delete_ tys ty #[m', k']) := by
  have h0 : tys[0]? = some t := by rw [← Array.getElem?_toList, hty]; rfl
  have hkt := tk_ok hT t
  cases hkk : tk cx t with
  | map kt el =>
    rw [hkk] at hkt
    have hu : P.underlying t = some (.map kt el) := hkt
    show SndV env n0 P M h w (match keyFits (tk cx kt) k with | true => delM m k | false => .bad 68) _
    cases hf : keyFits (tk cx kt) k with
    | false => exact Snd.bad
    | true =>
      have hKO := tk_ok hT kt
      obtain ⟨d, hd⟩ := keyFits_und hf hKO
      have hck : ∀ empty, (Instr.checkKey empty 10000 kt k').run P w = .ok () w := fun empty => checkKey_run empty hk hf hKO 9999
      cases hm with
      | mn =>
        exact Snd.ret r (x := .tuple #[]) (by simp only [Builtin.delete_, h0, List.getElem?_toArray, List.getElem?_cons_zero, List.getElem?_cons_succ, Sem.run_bind, run_und hu, Result.andThen_ok, hck, Sem.run_pure]) (.tup [] #[] .nil)
      | m b pl hM =>
        intro nx lg a h' nx' lg' hn er
        obtain ⟨es, g1, g2⟩ := run_getM er
        obtain ⟨pl', ms, clock, m1, m2, m3, m4, m5⟩ := r.map_at g1
        rw [hM] at m1; cases m1
        have hgo := getObj_run (P := P) m2 (by simp)
        cases hfm : findM k es 0 with
        | none => rw [hfm] at g2; exact (run_bad g2).elim
        | some res =>
          rw [hfm] at g2
          have hfo := findM_ok hk hf hd hKO es ms.toList 0 res m3 m4 hfm
          match res, hfo, g2 with
          | none, hfo, g2 =>
            obtain ⟨es0, q1, q2, q3⟩ := run_setM g2
            obtain ⟨e4, e5⟩ := run_ret q3
            cases e5; subst e4
            refine ⟨M, { w with heap := w.heap.setIfInBounds pl.blk (.map ms clock) }, .tuple #[], ?_, M.le_refl, r.setMap q1 q2 hM m3 m4, .tup [] #[] .nil, setMap_below _ _ (m5 q2), hn⟩
            simp only [Builtin.delete_, h0, List.getElem?_toArray, List.getElem?_cons_zero, List.getElem?_cons_succ, Sem.run_bind, run_und hu, Result.andThen_ok, Sem.run_pure, hck, hgo, Instr.findKey, run_und hd, hfo, setObj_run m2]
          | some (j, v'), hfo, g2 =>
            obtain ⟨x', i1, i2, i3, me, i4, i5⟩ := hfo
            obtain ⟨es0, q1, q2, q3⟩ := run_setM g2
            obtain ⟨e4, e5⟩ := run_ret q3
            cases e5; subst e4
            have hte : (ms.eraseIdxIfInBounds j).toList = ms.toList.eraseIdx j := by
              rw [Array.eraseIdxIfInBounds]
              split
              · simp
              · rename_i hlt
                rw [List.eraseIdx_of_length_le (by simpa using hlt)]
            refine ⟨M, { w with heap := w.heap.setIfInBounds pl.blk (.map (ms.eraseIdxIfInBounds j) clock) }, .tuple #[], ?_, M.le_refl, r.setMap q1 q2 hM ?_ ?_, .tup [] #[] .nil, setMap_below _ _ (m5 q2), hn⟩
            · simp only [Builtin.delete_, h0, List.getElem?_toArray, List.getElem?_cons_zero, List.getElem?_cons_succ, Sem.run_bind, run_und hu, Result.andThen_ok, Sem.run_pure, hck, hgo, Instr.findKey, run_und hd, i1, setObj_run m2]
            · rw [eraseAt_eq, hte, map_eraseIdx, map_eraseIdx]
              exact m3.eraseIdx j
            · rw [eraseAt_eq, hte, map_eraseIdx, map_eraseIdx]
              exact m4.eraseIdx j
      | _ => exact Snd.bad
  | _ => exact Snd.bad
theorem makeMap_snd (r : Rel env n0 M h w) (t : TypeId) : SndV env n0 P M h w (.new (.map []) mapTo) (Instr.makeMap t none) := by
  intro nx lg a h' nx' lg' hn er
  obtain ⟨q1, q2⟩ := run_new er
  obtain ⟨e4, e5⟩ := run_ret q2
  cases e5; subst e4
  have hM := r.dom nx q1
  have hp := r.push q1 hn (ob := .map []) (o := .map #[] 0) (pl := ⟨w.heap.size, 0, 0, 0, false⟩) rfl rfl (fun w' hw' => OR.map [] #[] 0 hw' .nil .nil)
  refine ⟨_, _, .map (some w.heap.size), ?_, Mp.le_add hM, hp, VR.m nx _ (add_self _ _ _), push_below r.size _, by omega⟩
  simp only [Instr.makeMap, Sem.run_bind, run_newObj, Result.andThen_ok, Sem.run_pure]
end ops
end Go.Vm
