/- VM: its runs are the model's: regions in the text's order, control, calls. -/
import Derived.Test.YtpbnbgjclalpeaaDoorVmEv
set_option linter.unusedVariables false
set_option linter.unusedSimpArgs false
namespace Go.Vm
open Go.RowKit
section
variable {env : Nat → Int} {n0 : Nat} {P : Program} {cx : Cx}
theorem evOps_cons (call : CallT) (ops : List Oper) (o : Oper) (l : List Oper) (t : Tm) (σ : St) :
    evOps call cx ops (o :: l) t σ = wantR (wanted o.guard ops cx t) (evOps call cx ops l (putT o.dst undefV t) σ) (act call o.dst t σ (evOps call cx ops l) (vop o.op cx t)) := by
  cases o; rfl
theorem okOps_cons {n : Nat} {o : Oper} {l : List Oper} (h : okOps n (o :: l) = true) : okDst n o.dst = true ∧ okOps n l = true := by
  have h : (Bool.rec false (okOps n l) (okDst n o.dst) : Bool) = true := h
  cases hd : okDst n o.dst with
  | false => rw [hd] at h; cases h
  | true => rw [hd] at h; exact ⟨rfl, h⟩
theorem wantR_ok {x : Option Bool} {no yes res : R} (h : wantR x no yes = res) (hnb : res ≠ .bad) : (x = some false ∧ no = res) ∨ (x = some true ∧ yes = res) := by
  cases x with
  | none => exact absurd h.symm hnb
  | some c => cases c with
    | false => exact .inl ⟨rfl, h⟩
    | true => exact .inr ⟨rfl, h⟩
theorem ops_snd (hT : TabOk P cx) (hp : PcOk env cx.pc) {call : CallT} (hc : CallOk env n0 P call) (ops : Array Oper) {Q : Post} : ∀ (l : List Oper) (i : Nat) (M : Mp) (h : Tr Ob) (nx : Nat) (lg : Lg) (t : Tm) (w : World) (a : Go.Act) (res : R),
    ops.toList.drop i = l → okOps a.tmps.size l = true → At env n0 M h nx t w a → evOps call cx ops.toList l t (.mk h nx lg) = res → PostR env n0 M a w Q res → wpOps P ops Q (List.range' i l.length) a w
  | [], i, M, h, nx, lg, t, w, a, res, hl, hok, s, hres, hpost => by
    have : R.nm t (.mk h nx lg) = res := hres
    subst this
    exact hpost M a w s (Bhd.refl _ _ _)
  | o :: l, i, M, h, nx, lg, t, w, a, res, hl, hok, s, hres, hpost => by
    have hnb : res ≠ .bad := by intro e; subst e; exact hpost
    rw [evOps_cons] at hres
    obtain ⟨hd, hok'⟩ := okOps_cons hok
    have hoi : ops[i]? = some o := by
      rw [← Array.getElem?_toList]
      have := List.getElem?_drop (xs := ops.toList) (i := i) (j := 0)
      rw [hl] at this
      simpa using this.symm
    have hl' : ops.toList.drop (i + 1) = l := by
      have := List.drop_drop (i := 1) (j := i) (l := ops.toList)
      rw [hl] at this
      simpa [Nat.add_comm] using this.symm
    rw [List.length_cons, List.range'_succ]
    simp only [wpOps, hoi]
    rcases wantR_ok hres hnb with ⟨hw, hr⟩ | ⟨hw, hr⟩
    · rw [if_neg (by rw [wanted_ok hp s.tm ops o hw]; simp)]
      refine ops_snd hT hp hc ops l (i + 1) M h nx lg _ w _ res hl' (by rw [Act.put_size]; exact hok') ⟨s.rel, TmR.put s.tm undef_ok (dst_lt hd), s.ro⟩ hr (hpost.later (bhd_put M.le_refl (Below.refl _ _) _ _))
    · rw [if_pos (wanted_ok hp s.tm ops o hw)]
      refine .inl (act_snd hT hp hc s o hd hr hnb fun t' h' nx' lg' hk M' w' x v s' _ b => ?_)
      exact ops_snd hT hp hc ops l (i + 1) M' h' nx' lg' t' w' _ res hl' (by rw [Act.put_size]; exact hok') s' hk (hpost.later b)

/-! ### results -/
theorem load_run (hT : TabOk P cx) {M : Mp} {h : Tr Ob} {w : World} (r : Rel env n0 M h w) {v x : V} {v' : Value} (hv : VR env M v v') (t : TypeId) {nx : Nat} {lg : Lg} {h' : Tr Ob} {nx' : Nat} {lg' : Lg}
    (e : (vload v cx t).run h nx lg = .ok x (.mk h' nx' lg')) : h' = h ∧ nx' = nx ∧ ∃ x', (do loadVar t (← asAddr v') : Sem Value).run P w = .ok x' w ∧ VR env M x x' := by
  cases hv with
  | p b o pl hM =>
    have e : (vload2 (cx.ty.get t) b o).run h nx lg = .ok x (.mk h' nx' lg') := e
    cases ht : cx.ty.get t with
    | none => rw [ht] at e; exact (run_bad e).elim
    | some ti =>
      rw [ht] at e
      have ok := hT t ti ht
      have e : ((match ti.ag with | true => Pr.rows b o ti.size fun cs => .ret (.agg cs.toList) | false => .cell b o .ret : Pr V)).run h nx lg = .ok x (.mk h' nx' lg') := e
      have ha := ok.run_isAgg (w := w)
      cases hag : ti.ag with
      | true =>
        rw [hag] at ha e
        obtain ⟨el, es, ex, cs, h1, h2, h3⟩ := run_rows e
        obtain ⟨e4, e5⟩ := run_ret h3
        cases e5; subst e4
        obtain ⟨pl', c, el', fz, m1, m2, m3, m4, m5⟩ := r.live h1
        rw [hM] at m1; cases m1
        obtain ⟨xs, x1, x2, x3, _⟩ := m3.loads (P := P) o ti.size h2
        refine ⟨rfl, rfl, .agg xs.toArray, ?_, .agg _ _ (by rw [RL.toList_take, RL.toList_drop]; simpa using x2)⟩
        simp only [asAddr, pure_bind, loadVar, Sem.run_bind, ha, Result.andThen_ok, if_true, ok.run_size, x3]
        rfl
      | false =>
        rw [hag] at ha e
        obtain ⟨el, es, ex, cs, v, h1, h2, h3⟩ := run_cell e
        obtain ⟨e4, e5⟩ := run_ret h3
        cases e5; subst e4
        obtain ⟨pl', c, el', fz, m1, m2, m3, m4, m5⟩ := r.live h1
        rw [hM] at m1; cases m1
        obtain ⟨x, x1, x2⟩ := m3.cell _ _ h2
        refine ⟨rfl, rfl, x, ?_, x2⟩
        simp only [asAddr, pure_bind, loadVar, Sem.run_bind, ha, Result.andThen_ok, Bool.false_eq_true, if_false, run_load, cell_of pl _ m3.heap, x1]
  | _ => exact (run_bad e).elim
def resOf (tmps : Array Value) : ResultVar → Sem Value
  | .tmp t => pure (tmps.getD t undef)
  | .cell c ty => do loadVar ty (← asAddr (tmps.getD c undef))
theorem results_eq (fn : Func) (tmps : Array Value) : results fn tmps = (do let vs ← fn.results.mapM (resOf tmps); pure (if h : vs.size = 1 then vs[0] else .tuple vs)) := by
  unfold results
  congr 2
theorem loadRes_ok (hT : TabOk P cx) {M : Mp} {h : Tr Ob} {w : World} (r : Rel env n0 M h w) {t : Tm} {a : Go.Act} (ht : TmR env M t a.tmps) : ∀ (rs : List ResultVar) (acc vs : List V) (nx : Nat) (lg : Lg) (h' : Tr Ob) (nx' : Nat) (lg' : Lg), RO ≤ nx →
    loadRes cx t rs acc (.mk h nx lg) = .ok vs (.mk h' nx' lg') → h' = h ∧ nx' = nx ∧ ∃ xs : List Value, ∃ ys : List V, vs = acc.reverse ++ ys ∧ VRs env M ys xs ∧
      (rs.mapM (resOf a.tmps)).run P w = .ok xs w
  | [], acc, vs, nx, lg, h', nx', lg', hn, e => by
    cases e
    exact ⟨rfl, rfl, [], [], by simp, .nil, rfl⟩
  | .tmp i :: rs, acc, vs, nx, lg, h', nx', lg', hn, e => by
    replace e : loadRes cx t rs (orU (t.get i) :: acc) (.mk h nx lg) = .ok vs (.mk h' nx' lg') := e
    obtain ⟨h1, h2, xs, ys, h3, h4, h5⟩ := loadRes_ok hT r ht rs _ vs nx lg h' nx' lg' hn e
    refine ⟨h1, h2, _ :: xs, orU (t.get i) :: ys, by rw [h3]; simp, .cons _ _ _ _ (ht i) h4, ?_⟩
    simp only [List.mapM_cons, resOf, pure_bind, Sem.run_bind, h5, Result.andThen_ok, Sem.run_pure]
  | .cell c ty :: rs, acc, vs, nx, lg, h', nx', lg', hn, e => by
    replace e : (Rs.rec .bad (fun v σ => loadRes cx t rs (v :: acc) σ) ((vload (orU (t.get c)) cx ty).run h nx lg) : Rs (List V)) = .ok vs (.mk h' nx' lg') := e
    cases hrun : (vload (orU (t.get c)) cx ty).run h nx lg with
    | bad => rw [hrun] at e; cases e
    | ok v σ =>
      rw [hrun] at e
      cases σ with
      | mk h1 nx1 lg1 =>
        obtain ⟨q1, q2, x', q3, q4⟩ := load_run hT r (ht c) ty hrun
        subst q1 q2
        obtain ⟨h1, h2, xs, ys, h3, h4, h5⟩ := loadRes_ok hT r ht rs _ vs _ _ h' nx' lg' hn e
        refine ⟨h1, h2, x' :: xs, v :: ys, by rw [h3]; simp, .cons _ _ _ _ q4 h4, ?_⟩
        rw [List.mapM_cons, Sem.run_bind]
        have q3' : (resOf a.tmps (.cell c ty)).run P w = .ok x' w := q3
        rw [q3']
        simp only [Result.andThen_ok, Sem.run_bind, h5, Sem.run_pure]
theorem packV_ok {M : Mp} {ys : List V} {xs : List Value} (h : VRs env M ys xs) : VR env M (packV ys) (if h : xs.toArray.size = 1 then xs.toArray[0] else .tuple xs.toArray) := by
  match ys, xs, h with
  | [], _, .nil => exact .tup [] #[] .nil
  | [y], _, .cons _ x _ _ h1 .nil => exact h1
  | y :: z :: l, _, .cons _ x _ _ h1 (.cons _ x2 _ _ h2 h3) =>
    rw [dif_neg (by simp)]
    exact .tup _ _ (.cons _ _ _ _ h1 (.cons _ _ _ _ h2 h3))
theorem results_ok (hT : TabOk P cx) {M : Mp} {h : Tr Ob} {w : World} (r : Rel env n0 M h w) {t : Tm} {a : Go.Act} (ht : TmR env M t a.tmps) (fn : Func) {nx : Nat} {lg : Lg} (hn : RO ≤ nx) {v : V} {h' : Tr Ob} {nx' : Nat} {lg' : Lg}
    (e : packR (loadRes cx t fn.results.toList [] (.mk h nx lg)) = .ok v (.mk h' nx' lg')) : h' = h ∧ nx' = nx ∧ ∃ x, (results fn a.tmps).run P w = .ok x w ∧ VR env M v x := by
  cases hl : loadRes cx t fn.results.toList [] (.mk h nx lg) with
  | bad => rw [hl] at e; cases e
  | ok vs σ =>
    rw [hl] at e
    cases σ with
    | mk h1 nx1 lg1 =>
      have e : Rs.ok (packV vs) (.mk h1 nx1 lg1) = .ok v (.mk h' nx' lg') := e
      cases e
      obtain ⟨h1, h2, xs, ys, h3, h4, h5⟩ := loadRes_ok hT r ht _ _ vs _ _ _ _ _ hn hl
      refine ⟨h1, h2, _, ?_, by rw [h3]; exact packV_ok h4⟩
      rw [results_eq, Sem.run_bind]
      have : (fn.results.mapM (resOf a.tmps)).run P w = .ok xs.toArray w := by
        rw [Array.mapM_eq_mapM_toList]
        show Sem.run P (List.toArray <$> fn.results.toList.mapM (resOf a.tmps)) w = _
        rw [map_eq_pure_bind, Sem.run_bind, h5]
        rfl
      rw [this]
      rfl
end
end Go.Vm
