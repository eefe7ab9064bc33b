/- VM: its operations are the model's, one by one (first part). -/
import Derived.Test.YtpbnbgjclalpeaaDoorVmMem
import Derived.Test.YtpbnbgjclalpeaaDoorVmNum
import GoSem.Dispatch
import Derived.Laws.Sem
set_option linter.unusedVariables false
set_option linter.unusedSimpArgs false
namespace Go.Vm
open Go.RowKit

/-! ### the table of types -/
def agOf : TypeDesc → Bool
  | .struct _ => true
  | .array _ _ => true
  | _ => false
def KOk (P : Program) (t : TypeId) : TK → Prop
  | .int k => P.underlying t = some (.int k)
  | .bool => P.underlying t = some .bool
  | .string => P.underlying t = some .string
  | .pointer e => P.underlying t = some (.pointer e)
  | .slice e => P.underlying t = some (.slice e)
  | .map k e => P.underlying t = some (.map k e)
  | .func => ∃ a b c, P.underlying t = some (.func a b c)
  | .iface e => ∃ ms, P.underlying t = some (.interface ms) ∧ ms.isEmpty = e
  | .struct fs => ∃ fields : Array Field, P.underlying t = some (.struct fields) ∧ fs = fields.toList.map fun f => (f.type, f.offset, f.name == "_")
  | .array n e => P.underlying t = some (.array n e)
  | .other => True
structure TyOk (P : Program) (t : TypeId) (ti : TI) : Prop where
  info : ∃ i, P.info? t = some i ∧ i.size = ti.size ∧ i.bytes = ti.bytes ∧ ∀ z, ti.zero = some z → ∃ x, i.zero = some x ∧ ∀ env M, VR env M z x
  und : ∃ d, P.underlying t = some d ∧ agOf d = ti.ag
  k : KOk P t ti.k
  eq : ti.eq = true → P.stoodInHeld t = false ∧ P.eqGuardType P.depth t = false
def TabOk (P : Program) (cx : Cx) : Prop := ∀ t ti, cx.ty.get t = some ti → TyOk P t ti

section runs
variable {P : Program} {w : World} {t : TypeId} {ti : TI}
theorem run_und {d : TypeDesc} (h : P.underlying t = some d) : (underlying t).run P w = .ok d w := by simp [underlying, h]
theorem TyOk.run_size (h : TyOk P t ti) : (sizeOf t).run P w = .ok ti.size w := by
  obtain ⟨i, h1, h2, _⟩ := h.info
  simp [sizeOf, typeInfo, h1, h2]
theorem TyOk.run_info (h : TyOk P t ti) : ∃ i, (typeInfo t).run P w = .ok i w ∧ i.size = ti.size ∧ i.bytes = ti.bytes := by
  obtain ⟨i, h1, h2, h3, _⟩ := h.info
  exact ⟨i, by simp [typeInfo, h1], h2, h3⟩
theorem TyOk.run_zero (h : TyOk P t ti) {z : V} (hz : ti.zero = some z) : ∃ x, (zeroValue t).run P w = .ok x w ∧ ∀ env M, VR env M z x := by
  obtain ⟨i, h1, _, _, h4⟩ := h.info
  obtain ⟨x, h5, h6⟩ := h4 z hz
  exact ⟨x, by simp [zeroValue, typeInfo, h1, h5], h6⟩
theorem TyOk.run_isAgg (h : TyOk P t ti) : (isAgg t).run P w = .ok ti.ag w := by
  obtain ⟨d, h1, h2⟩ := h.und
  unfold isAgg
  rw [Sem.run_bind, run_und h1, Result.andThen_ok, ← h2]
  cases d <;> rfl
end runs

/-! ### trees -/
section pr
variable {α : Type} {h : Tr Ob} {nx : Nat} {lg : Lg} {a : α} {σ : St}
theorem asRow_ok {o : Option Ob} {k : TypeId → Nat → Bool → RL V → Rs α} (e : asRow .bad k o = .ok a σ) : ∃ el es ex cs, o = some (.cells el es ex true cs) ∧ k el es ex cs = .ok a σ := by
  cases o with
  | none => cases e
  | some o =>
    cases o with
    | cells el es ex live cs => cases live with
      | false => cases e
      | true => exact ⟨el, es, ex, cs, rfl, e⟩
    | map es => cases e
theorem asMap_ok {o : Option Ob} {k : List (V × V) → Rs α} (e : asMap .bad k o = .ok a σ) : ∃ es, o = some (.map es) ∧ k es = .ok a σ := by
  cases o with
  | none => cases e
  | some o => cases o with
    | cells el es ex live cs => cases e
    | map es => exact ⟨es, rfl, e⟩
theorem bool_ok {c : Bool} {x : Rs α} (e : (Bool.rec .bad x c : Rs α) = .ok a σ) : c = true ∧ x = .ok a σ := by cases c with
  | false => cases e
  | true => exact ⟨rfl, e⟩
theorem forceN_eq {β : Type} (n : Nat) (k : Nat → β) : forceN n k = k n := by cases n <;> rfl
theorem rdK_eq {β : Type} (l : Lg) (b : Nat) (k : Lg → β) : l.rdK b k = k (l.rd b) := by
  cases l with
  | off => rfl
  | on r w => exact forceN_eq (addB r b) fun r => k (.on r w)
theorem wrK_eq {β : Type} (l : Lg) (b : Nat) (k : Lg → β) : l.wrK b k = k (l.wr b) := by
  cases l with
  | off => rfl
  | on r w => exact forceN_eq (addB w b) fun w => k (.on r w)
theorem run_ret {v : α} (e : (Pr.ret v).run h nx lg = .ok a σ) : v = a ∧ σ = .mk h nx lg := by cases e; exact ⟨rfl, rfl⟩
theorem run_bad {n : Nat} (e : (Pr.bad n : Pr α).run h nx lg = .ok a σ) : False := by cases e
theorem run_cell {b o : Nat} {k : V → Pr α} (e : (Pr.cell b o k).run h nx lg = .ok a σ) :
    ∃ el es ex cs v, h.get b = some (.cells el es ex true cs) ∧ cs.toList[o]? = some v ∧ (k v).run h nx (lg.rd b) = .ok a σ := by
  obtain ⟨el, es, ex, cs, h1, h2⟩ := asRow_ok e
  cases hg : cs.get o with
  | none => rw [hg] at h2; cases h2
  | some v => rw [hg] at h2; replace h2 := (rdK_eq lg b _).symm.trans h2; exact ⟨el, es, ex, cs, v, h1, by rw [← RL.get_eq]; exact hg, h2⟩
theorem run_setc {b o : Nat} {v : V} {k : Pr α} (e : (Pr.setc b o v k).run h nx lg = .ok a σ) :
    ∃ el es ex cs, h.get b = some (.cells el es ex true cs) ∧ RO ≤ b ∧ oneC v = true ∧ o < cs.toList.length ∧ k.run (h.set b (.cells el es ex true (cs.set o v))) nx (lg.wr b) = .ok a σ := by
  obtain ⟨el, es, ex, cs, h1, h2⟩ := asRow_ok e
  obtain ⟨h3, h4⟩ := bool_ok h2
  obtain ⟨h5, h6⟩ := bool_ok h4
  obtain ⟨h7, h8⟩ := bool_ok h6
  rw [RL.len_eq] at h7
  exact ⟨el, es, ex, cs, h1, Nat.le_of_ble_eq_true h3, h5, Nat.le_of_ble_eq_true h7, (wrK_eq lg b _).symm.trans h8⟩
theorem run_rows {b lo n : Nat} {k : RL V → Pr α} (e : (Pr.rows b lo n k).run h nx lg = .ok a σ) :
    ∃ el es ex cs, h.get b = some (.cells el es ex true cs) ∧ lo + n ≤ cs.toList.length ∧ (k ((cs.drop lo).take n)).run h nx (lg.rd b) = .ok a σ := by
  obtain ⟨el, es, ex, cs, h1, h2⟩ := asRow_ok e
  obtain ⟨h3, h4⟩ := bool_ok h2
  rw [RL.len_eq] at h3
  exact ⟨el, es, ex, cs, h1, Nat.le_of_ble_eq_true h3, (rdK_eq lg b _).symm.trans h4⟩
theorem allOne_eq (r : RL V) (e : allOne r = true) : ∀ v ∈ r.toList, oneC v = true := by
  induction r with
  | nil => intro v hv; cases hv
  | cons x r ih =>
    intro v hv
    have h2 : (Bool.rec false (allOne r) (oneC x.1) : Bool) = true := e
    rw [RL.toList_cons, List.mem_append] at hv
    cases ho : oneC x.1 with
    | false => rw [ho] at h2; cases h2
    | true =>
      rw [ho] at h2
      rcases hv with hv | hv
      · rw [(List.mem_replicate.1 hv).2]; exact ho
      · exact ih h2 v hv
theorem run_sets {b lo : Nat} {nw : RL V} {k : Pr α} (e : (Pr.sets b lo nw k).run h nx lg = .ok a σ) :
    ∃ el es ex cs, h.get b = some (.cells el es ex true cs) ∧ RO ≤ b ∧ (∀ v ∈ nw.toList, oneC v = true) ∧ lo + nw.toList.length ≤ cs.toList.length ∧
      k.run (h.set b (.cells el es ex true (setRL nw cs lo))) nx (lg.wr b) = .ok a σ := by
  obtain ⟨el, es, ex, cs, h1, h2⟩ := asRow_ok e
  obtain ⟨h3, h4⟩ := bool_ok h2
  obtain ⟨h5, h6⟩ := bool_ok h4
  obtain ⟨h7, h8⟩ := bool_ok h6
  rw [RL.len_eq, RL.len_eq] at h7
  exact ⟨el, es, ex, cs, h1, Nat.le_of_ble_eq_true h3, allOne_eq _ h5, Nat.le_of_ble_eq_true h7, (wrK_eq lg b _).symm.trans h8⟩
theorem run_info' {b : Nat} {k : Nat → Nat → Bool → Pr α} (e : (Pr.info b k).run h nx lg = .ok a σ) :
    ∃ el es ex cs, h.get b = some (.cells el es ex true cs) ∧ (k es cs.toList.length ex).run h nx (lg.rd b) = .ok a σ := by
  obtain ⟨el, es, ex, cs, h1, h2⟩ := asRow_ok e
  replace h2 := (rdK_eq lg b _).symm.trans h2
  rw [RL.len_eq] at h2
  exact ⟨el, es, ex, cs, h1, h2⟩
theorem run_new {o : Ob} {k : Nat → Pr α} (e : (Pr.new o k).run h nx lg = .ok a σ) : h.get nx = none ∧ (k nx).run (h.set nx o) (nx + 1) lg = .ok a σ := by
  have e' : (Option.rec ((k nx).run (h.set nx o) (Nat.succ nx) lg) (fun _ => .bad) (h.get nx) : Rs α) = .ok a σ := e
  cases hg : h.get nx with
  | none => rw [hg] at e'; exact ⟨rfl, e'⟩
  | some o => rw [hg] at e'; cases e'
theorem run_kill {b : Nat} {k : Pr α} (e : (Pr.kill b k).run h nx lg = .ok a σ) :
    ∃ el es ex cs, h.get b = some (.cells el es ex true cs) ∧ RO ≤ b ∧ k.run (h.set b (.cells el es ex false cs)) nx (lg.wr b) = .ok a σ := by
  obtain ⟨el, es, ex, cs, h1, h2⟩ := asRow_ok e
  obtain ⟨h3, h4⟩ := bool_ok h2
  exact ⟨el, es, ex, cs, h1, Nat.le_of_ble_eq_true h3, (wrK_eq lg b _).symm.trans h4⟩
theorem run_getM {r : Nat} {k : List (V × V) → Pr α} (e : (Pr.getM r k).run h nx lg = .ok a σ) : ∃ es, h.get r = some (.map es) ∧ (k es).run h nx (lg.rd r) = .ok a σ := by
  obtain ⟨es, h1, h2⟩ := asMap_ok e
  exact ⟨es, h1, (rdK_eq lg r _).symm.trans h2⟩
theorem run_setM {r : Nat} {es : List (V × V)} {k : Pr α} (e : (Pr.setM r es k).run h nx lg = .ok a σ) :
    ∃ es0, h.get r = some (.map es0) ∧ RO ≤ r ∧ k.run (h.set r (.map es)) nx (lg.wr r) = .ok a σ := by
  obtain ⟨es0, h1, h2⟩ := asMap_ok e
  obtain ⟨h3, h4⟩ := bool_ok h2
  exact ⟨es0, h1, Nat.le_of_ble_eq_true h3, (wrK_eq lg r _).symm.trans h4⟩
end pr

/-- What a tree does, the model's piece does. -/
def Snd (env : Nat → Int) (n0 : Nat) (P : Program) (M : Mp) (h : Tr Ob) (w : World) {α β : Type} (R : Mp → α → β → Prop) (p : Pr α) (s : Sem β) : Prop :=
  ∀ nx lg a h' nx' lg', RO ≤ nx → p.run h nx lg = .ok a (.mk h' nx' lg') →
    ∃ M' w' x, s.run P w = .ok x w' ∧ M.le M' ∧ Rel env n0 M' h' w' ∧ R M' a x ∧ Below n0 w w' ∧ RO ≤ nx'

section ops
variable {env : Nat → Int} {n0 : Nat} {P : Program} {M : Mp} {h : Tr Ob} {w : World} {cx : Cx}
abbrev SndV (env : Nat → Int) (n0 : Nat) (P : Program) (M : Mp) (h : Tr Ob) (w : World) (p : Pr V) (s : Sem Value) : Prop := Snd env n0 P M h w (VR env) p s
abbrev SndU (env : Nat → Int) (n0 : Nat) (P : Program) (M : Mp) (h : Tr Ob) (w : World) (p : Pr Unit) (s : Sem Unit) : Prop := Snd env n0 P M h w (fun _ _ _ => True) p s
theorem Snd.bad {n : Nat} {s : Sem Value} : SndV env n0 P M h w (.bad n) s := fun _ _ _ _ _ _ _ e => (run_bad e).elim
theorem Snd.badU {n : Nat} {s : Sem Unit} : SndU env n0 P M h w (.bad n) s := fun _ _ _ _ _ _ _ e => (run_bad e).elim
theorem Snd.ret (r : Rel env n0 M h w) {v : V} {x : Value} {s : Sem Value} (hs : s.run P w = .ok x w) (hv : VR env M v x) : SndV env n0 P M h w (.ret v) s := by
  intro nx lg a h' nx' lg' hn e
  obtain ⟨rfl, e2⟩ := run_ret e
  cases e2
  exact ⟨M, w, x, hs, M.le_refl, r, hv, Below.refl _ _, hn⟩

/-- A load. -/
theorem load_snd (hT : TabOk P cx) (r : Rel env n0 M h w) {a : V} {a' : Value} (ha : VR env M a a') (t : TypeId) :
    SndV env n0 P M h w (vload a cx t) (Instr.loadAt t a') := by
  cases ha with
  | p b o pl hM =>
    show SndV env n0 P M h w (vload2 (cx.ty.get t) b o) _
    cases ht : cx.ty.get t with
    | none => exact Snd.bad
    | some ti =>
      have ok := hT t ti ht
      show SndV env n0 P M h w (match ti.ag with | true => Pr.rows b o ti.size fun cs => .ret (.agg cs.toList) | false => .cell b o .ret) _
      cases hag : ti.ag with
      | true =>
        intro nx lg a h' nx' lg' hn e
        obtain ⟨el, es, ex, cs, h1, h2, h3⟩ := run_rows e
        obtain ⟨e4, e5⟩ := run_ret h3
        cases e5; subst e4
        obtain ⟨pl', c, el', fz, m1, m2, m3, m4, m5⟩ := r.live h1
        rw [hM] at m1; cases m1
        obtain ⟨xs, x1, x2, x3, _⟩ := m3.loads (P := P) o ti.size h2
        refine ⟨M, w, .agg xs.toArray, ?_, M.le_refl, r, .agg _ _ (by rw [RL.toList_take, RL.toList_drop]; simpa using x2), Below.refl _ _, hn⟩
        have ha := ok.run_isAgg (w := w)
        rw [hag] at ha
        simp only [Instr.loadAt, Instr.sureAddr, pure_bind, loadVar, Sem.run_bind, ha, Result.andThen_ok, if_true, ok.run_size, x3]
        rfl
      | false =>
        intro nx lg a h' nx' lg' hn e
        obtain ⟨el, es, ex, cs, v, h1, h2, h3⟩ := run_cell e
        obtain ⟨e4, e5⟩ := run_ret h3
        cases e5; subst e4
        obtain ⟨pl', c, el', fz, m1, m2, m3, m4, m5⟩ := r.live h1
        rw [hM] at m1; cases m1
        obtain ⟨x, x1, x2⟩ := m3.cell _ _ h2
        refine ⟨M, w, x, ?_, M.le_refl, r, x2, Below.refl _ _, hn⟩
        have ha := ok.run_isAgg (w := w)
        rw [hag] at ha
        simp only [Instr.loadAt, Instr.sureAddr, pure_bind, loadVar, Sem.run_bind, ha, Result.andThen_ok, Bool.false_eq_true, if_false, run_load, cell_of pl _ m3.heap, x1]
  | _ => exact Snd.bad

theorem one_of {v : V} {x : Value} (hv : VR env M v x) (ho : oneC v = true) : oneCell x := by
  cases hv <;> first | trivial | (cases ho)
/-- Cells laid over a row's. -/
theorem sets_write (r : Rel env n0 M h w) {b lo : Nat} {el : TypeId} {es : Nat} {ex : Bool} {cs nw : RL V} {xs : List Value} {pl : Pl} (h1 : h.get b = some (.cells el es ex true cs)) (hM : M b = some pl)
    (hRO : RO ≤ b) (hone : ∀ v ∈ nw.toList, oneC v = true) (hl : lo + nw.toList.length ≤ cs.toList.length) (hx : VRs env M nw.toList xs) :
    ∃ w', (storeCells ⟨pl.blk, pl.off + lo, none⟩ xs).run P w = .ok () w' ∧ Rel env n0 M (h.set b (.cells el es ex true (setRL nw cs lo))) w' ∧ Below n0 w w' := by
  obtain ⟨pl', c, el', fz, m1, m2, m3, m4, m5⟩ := r.live h1
  rw [hM] at m1; cases m1
  have hlen := m3.len
  have hsz := m3.size
  have hxl := hx.length
  have hxo : ∀ x ∈ xs, oneCell x := by
    intro x hx'
    obtain ⟨i, hi⟩ := List.getElem?_of_mem hx'
    have hv : nw.toList[i]? = some (nw.toList[i]'(by have := (List.getElem?_eq_some_iff.1 hi).1; omega)) := List.getElem?_eq_getElem _
    obtain ⟨y, y1, y2⟩ := hx.get i _ hv
    rw [hi] at y1; cases y1
    exact one_of y2 (hone _ (List.getElem_mem _))
  obtain ⟨w', r1, r2, r3, r4, r5⟩ := storeCells_run (P := P) pl.blk el' fz (pl.off + lo) xs 0 w c m3.heap (by omega) (m3.free (m4 hRO).2) hxo
  refine ⟨w', r1, ?_, r5 n0 r.size (m4 hRO).1⟩
  refine r.write h1 hM hRO (by rw [r2]) r4 r3 (by rw [lay_size]; exact hsz) (by rw [setRL_toList]; simp; omega) ?_ (by rw [lay_size]; exact m3.free (m4 hRO).2)
  intro i v hv
  rw [setRL_toList] at hv
  rw [lay_get xs c _ _ (by omega)]
  by_cases hi : i < lo
  · rw [if_neg (by omega)]
    rw [List.getElem?_append_left (by simp; omega), List.getElem?_take, if_pos hi] at hv
    exact m3.cell i v hv
  · rw [List.getElem?_append_right (by simp; omega)] at hv
    rw [show (cs.toList.take lo).length = lo by simp; omega] at hv
    by_cases hi2 : i - lo < nw.toList.length
    · rw [if_pos (by omega)]
      rw [List.getElem?_append_left hi2] at hv
      obtain ⟨x, x1, x2⟩ := hx.get _ _ hv
      exact ⟨x, by rw [show pl.off + i - (pl.off + lo + 0) = i - lo by omega]; exact x1, x2⟩
    · rw [if_neg (by omega)]
      rw [List.getElem?_append_right (by omega), List.getElem?_drop] at hv
      rw [show lo + nw.toList.length + (i - lo - nw.toList.length) = i by omega] at hv
      exact m3.cell i v hv
theorem set_eq_setRL (cs : RL V) (o : Nat) (v : V) (ho : o < cs.toList.length) : (cs.set o v).toList = (setRL [(v, 1)] cs o).toList := by
  rw [RL.toList_set, setRL_toList, RL.toList_cons, RL.toList_nil]
  rw [List.set_eq_take_append_cons_drop, if_pos ho]
  rfl
/-- Two rows of the same cells stand alike. -/
theorem Rel.swap {b : Nat} {el : TypeId} {es : Nat} {ex : Bool} {cs cs' : RL V} (r : Rel env n0 M (h.set b (.cells el es ex true cs)) w) (e : cs.toList = cs'.toList) :
    Rel env n0 M (h.set b (.cells el es ex true cs')) w := by
  refine ⟨?_, ?_, ?_, r.size⟩
  · intro k hk
    refine r.dom k ?_
    rw [Tr.get_set] at hk ⊢
    split at hk
    · cases hk
    · rename_i hn; rw [if_neg hn]; exact hk
  · intro k ob hob
    rw [Tr.get_set] at hob
    by_cases ek : k = b
    · subst ek
      rw [if_pos rfl] at hob
      cases hob
      obtain ⟨pl, m1, m2, m3, m4, m5⟩ := r.row k (.cells el es ex true cs) (by rw [Tr.get_set, if_pos rfl])
      refine ⟨pl, m1, ?_, m3, m4, m5⟩
      cases m2 with
      | live _ _ _ c el' fz a1 a2 a3 a4 a5 a6 => exact .live el ex cs' c el' fz a1 a2 (by rw [← e]; exact a3) (by rw [← e]; exact a4) a5 (by rw [← e]; exact a6)
    · rw [if_neg ek] at hob
      exact r.row k ob (by rw [Tr.get_set, if_neg ek]; exact hob)
  · intro a a' oa oa' pa pa' g1 g2 l1 l2 ro1 ro2 m1 m2 hbk
    rw [Tr.get_set] at g1 g2
    have get : ∀ a oa, (if a = b then some (Ob.cells el es ex true cs') else h.get a) = some oa → aliveO oa = true → ∃ oo, (h.set b (.cells el es ex true cs)).get a = some oo ∧ aliveO oo = true := by
      intro a oa g l
      rw [Tr.get_set]
      by_cases ea : a = b
      · subst ea; exact ⟨_, by rw [if_pos rfl], rfl⟩
      · rw [if_neg ea] at g; exact ⟨oa, by rw [if_neg ea]; exact g, l⟩
    obtain ⟨o1, g1', l1'⟩ := get a oa g1 l1
    obtain ⟨o2, g2', l2'⟩ := get a' oa' g2 l2
    exact r.inj a a' o1 o2 pa pa' g1' g2' l1' l2' ro1 ro2 m1 m2 hbk

/-- A store. -/
theorem store_snd (hT : TabOk P cx) (r : Rel env n0 M h w) {a v : V} {a' v' : Value} (ha : VR env M a a') (hv : VR env M v v') (t : TypeId) :
    SndU env n0 P M h w (vstore a cx t v) (Instr.storeAt t a' v') := by
  cases ha with
  | p b o pl hM =>
    show SndU env n0 P M h w (vstore2 (tiSize (cx.ty.get t)) (cellsV v) b o) _
    cases ht : cx.ty.get t with
    | none => exact Snd.badU
    | some ti =>
      have ok := hT t ti ht
      have hc := hv.cells
      have hcl := hc.length
      show SndU env n0 P M h w (match Nat.beq ti.size (cellsV v).length with | true => vstore3 (cellsV v) b o | false => .bad 4) _
      cases hb : Nat.beq ti.size (cellsV v).length with
      | false => exact Snd.badU
      | true =>
        have hsz : ti.size = (cellsV v).length := Nat.eq_of_beq_eq_true hb
        have hst : (Instr.storeAt t (.pointer (some ⟨pl.blk, pl.off + o, none⟩)) v').run P w = (storeCells ⟨pl.blk, pl.off + o, none⟩ v'.cells.toList).run P w := by
          simp only [Instr.storeAt, Instr.sureAddr, pure_bind, storeVar, Sem.run_bind, ok.run_size, Result.andThen_ok]
          rw [if_neg (by rw [hsz, hcl]; simp)]
        intro nx lg a h' nx' lg' hn e
        have main : ∀ nw : RL V, nw.toList = cellsV v → (Pr.sets b o nw (.ret ())).run h nx lg = .ok a (.mk h' nx' lg') →
            ∃ M' w' x, (Instr.storeAt t (.pointer (some ⟨pl.blk, pl.off + o, none⟩)) v').run P w = .ok x w' ∧ M.le M' ∧ Rel env n0 M' h' w' ∧ True ∧ Below n0 w w' ∧ RO ≤ nx' := by
          intro nw hnw e
          obtain ⟨el, es, ex, cs, h1, h2, h3, h4, h5⟩ := run_sets e
          obtain ⟨_, e5⟩ := run_ret h5
          cases e5
          rw [hnw] at h3 h4
          obtain ⟨w', s1, s2, s3⟩ := sets_write (P := P) r (nw := nw) h1 hM h2 (by rw [hnw]; exact h3) (by rw [hnw]; exact h4) (by rw [hnw]; exact hc)
          exact ⟨M, w', (), by rw [hst]; exact s1, M.le_refl, s2, trivial, s3, hn⟩
        match hcv : cellsV v, e with
        | [], e => exact main (RL.ofList []) (by rw [RL.toList_ofList, hcv]) e
        | [y], e =>
          obtain ⟨el, es, ex, cs, h1, h2, h3, h4, h5⟩ := run_setc e
          obtain ⟨_, e5⟩ := run_ret h5
          cases e5
          have hnw : RL.toList [(y, 1)] = cellsV v := by rw [hcv]; rfl
          obtain ⟨w', s1, s2, s3⟩ := sets_write (P := P) r (lo := o) (nw := [(y, 1)]) h1 hM h2 (by rw [hnw, hcv]; simpa using h3) (by rw [hnw, hcv]; simp; omega) (by rw [hnw]; exact hc)
          exact ⟨M, w', (), by rw [hst]; exact s1, M.le_refl, s2.swap (set_eq_setRL cs o y h4).symm, trivial, s3, hn⟩
        | y :: z :: l, e => exact main (RL.ofList (y :: z :: l)) (by rw [RL.toList_ofList, hcv]) e
  | _ => exact Snd.badU
end ops
end Go.Vm
