/- VM: regions that are drawn (eighth part): the model's region. -/
import Derived.Test.YtpbnbgjclalpeaaDoorVmDrawG
set_option linter.unusedVariables false
set_option linter.unusedSimpArgs false
namespace Go.Vm
open Go.RowKit
section
variable {env : Nat → Int} {n0 : Nat} {P : Program} {cx : Cx} {call : CallT} {ops : Array Oper} {T : Nat → Tm} {H : Nat → Tr Ob} {N : Nat → Nat} {W : Nat → V} {RD WR : Nat → Nat} {F : Nat → List Fp}
/-- One operation, told by its run. -/
theorem opX_snd (hT : TabOk P cx) (hp : PcOk env cx.pc) (hc : CallOk env n0 P call) {M : Mp} {h : Tr Ob} {nx : Nat} {lg : Lg} {t : Tm} {w : World} {a : Go.Act} (s : At env n0 M h nx t w a) (o : Oper)
    (hd : okDst a.tmps.size o.dst = true) {v : V} {h' : Tr Ob} {nx' : Nat} {lg' : Lg} (hx : opX call (vop o.op cx t) h nx lg = .ok v (.mk h' nx' lg')) {next : Go.Act → World → Prop} {Q : Post}
    (hk : ∀ M' w' x, At env n0 M' h' nx' (putT o.dst v t) w' (a.put o.dst x) → Bhd n0 M M' a (a.put o.dst x) w w' → next (a.put o.dst x) w') : o.wp P a w next Q := by
  refine act_snd hT hp hc (lg := lg) s o hd (k := fun t σ => .nm t σ) (res := .nm (putT o.dst v t) (.mk h' nx' lg')) ?_ (by simp) ?_
  · rw [act_eq, hx]
  · intro t' h1 nx1 lg1 e M' w' x v' s' _ b
    cases e
    exact hk M' w' x s' b
theorem Trc.nmono (z : Trc call cx ops T H N W RD WR F) (hl : LocC call) : ∀ k, k ≤ ops.size → N 0 ≤ N k
  | 0, _ => Nat.le_refl _
  | k + 1, h => Nat.le_trans (z.nmono hl k (by omega)) (z.frame hl k (by omega)).1
theorem okOps_at {n : Nat} : ∀ (l : List Oper) (i : Nat) (o : Oper), okOps n l = true → l[i]? = some o → okDst n o.dst = true
  | [], _, _, _, h => by cases h
  | x :: l, 0, o, h, e => by cases e; exact (okOps_cons h).1
  | x :: l, i + 1, o, h, e => okOps_at l i o (okOps_cons h).2 e
theorem ready_mem {md : Region.Mode} {listed : Array Bool} {i : Nat} : i ∈ Region.ready md ops listed ↔ i < ops.size ∧ listed.getD i true = false ∧ ∃ o, ops[i]? = some o ∧ ∀ e ∈ o.after.toList, Region.binds md e = true → listed.getD e.on false = true := by
  unfold Region.ready
  rw [List.mem_filter, List.mem_range]
  have key : ∀ o : Oper, (o.after.all fun e => !Region.binds md e || listed.getD e.on false) = true ↔ ∀ e ∈ o.after.toList, Region.binds md e = true → listed.getD e.on false = true := by
    intro o
    rw [← Array.all_toList, List.all_eq_true]
    refine forall_congr' fun e => forall_congr' fun _ => ?_
    cases Region.binds md e <;> simp
  constructor
  · rintro ⟨h1, h2⟩
    obtain ⟨o, ho⟩ := oper_at ops h1
    rw [ho] at h2
    obtain ⟨h3, h4⟩ := and_true h2
    exact ⟨h1, by simpa using h3, o, ho, (key o).1 h4⟩
  · rintro ⟨h1, h2, o, ho, h3⟩
    refine ⟨h1, ?_⟩
    rw [ho, h2]
    exact (key o).2 h3
theorem all_fin (z : Trc call cx ops T H N W RD WR F) (hl : LocC call) {S : Nat → Bool} {g : Tr Ob} {t : Tm} {M : Mp} {a : Go.Act} {w : World} (hS : ∀ k, k < ops.size → S k = true) (v : Inv ops T H N W WR S g t)
    (s : At env n0 M g (N 0) t w a) (hro : RO ≤ N 0) {Q : Post} {lg' : Lg} (hpost : PostR env n0 M a w Q (.nm (T ops.size) (.mk (H ops.size) (N ops.size) lg'))) : Q .normal a w := by
  refine hpost M a w ⟨Rel.like s.rel fun b => ?_, TmR.like s.tm fun d => ?_, Nat.le_trans hro (z.nmono hl _ (Nat.le_refl _))⟩ (Bhd.refl _ _ _)
  · rw [v.heap b, text_heap H N WR (n := ops.size) (fun k hk => (z.frame hl k hk).2) b _ (Nat.le_refl _)]
    congr 1
    exact (lastIn_congr _ fun j hj => by rw [hS j hj]; rfl).symm
  · rw [v.tms d, text_tm (Nat.le_refl _) (fun k o hk ho => (z.tc.step k o (by omega) hk ho).1) d _ (Nat.le_refl _)]
    congr 1
    exact (lastIn_congr _ fun j hj => by rw [hS j hj]; rfl).symm
theorem any_snd (hT : TabOk P cx) (hp : PcOk env cx.pc) (hc : CallOk env n0 P call) (hl : LocC call) (z : Trc call cx ops T H N W RD WR F) {Q : Post} (hro : RO ≤ N 0) {n : Nat} (hok : okOps n ops.toList = true) {lg' : Lg} :
    ∀ (fuel : Nat) (listed : Array Bool) (g : Tr Ob) (t : Tm) (M : Mp) (a : Go.Act) (w : World), listed.size = ops.size → Closed ops (fun j => listed.getD j false) → cntU (fun j => listed.getD j false) ops.size ≤ fuel →
      Inv ops T H N W WR (fun j => listed.getD j false) g t → At env n0 M g (N 0) t w a → a.tmps.size = n → PostR env n0 M a w Q (.nm (T ops.size) (.mk (H ops.size) (N ops.size) lg')) → wpAny P .any ops Q fuel listed a w := by
  have full : ∀ (listed : Array Bool), listed.size = ops.size → Region.ready .any ops listed = [] → ∀ k, k < ops.size → listed.getD k false = true := by
    intro listed hsz hr k hk
    cases hs : listed.getD k false with
    | true => rfl
    | false =>
      obtain ⟨m, m1, m2, m3⟩ := least_not (S := fun j => listed.getD j false) ops.size ⟨k, hk, hs⟩
      obtain ⟨o, ho⟩ := oper_at ops m1
      have hm : m ∈ Region.ready .any ops listed := by
        refine ready_mem.2 ⟨m1, ?_, o, ho, fun e he hb => m3 e.on (chk_edges z.chk ho m1 e he hb)⟩
        have m2 : listed.getD m false = false := m2
        rw [Array.getD_eq_getD_getElem?, Array.getElem?_eq_getElem (by omega)] at m2 ⊢
        exact m2
      rw [hr] at hm; cases hm
  intro fuel
  induction fuel with
  | zero =>
    intro listed g t M a w hsz hcl hcnt v s hn hpost
    have hall := cntU_zero (S := fun j => listed.getD j false) ops.size (by omega)
    refine ⟨?_, all_fin z hl hall v s hro hpost⟩
    refine List.eq_nil_iff_forall_not_mem.2 fun i hi => ?_
    obtain ⟨h1, h2, _⟩ := ready_mem.1 hi
    have := hall i h1
    have this : listed.getD i false = true := this
    rw [Array.getD_eq_getD_getElem?, Array.getElem?_eq_getElem (by omega)] at this h2
    simp at this h2
    rw [this] at h2; cases h2
  | succ fuel ih =>
    intro listed g t M a w hsz hcl hcnt v s hn hpost
    refine ⟨fun hr => all_fin z hl (full listed hsz hr) v s hro hpost, fun i hi => ?_⟩
    obtain ⟨h1, h2, o, ho, h3⟩ := ready_mem.1 hi
    have hS : (fun j => listed.getD j false) i = false := by
      show listed.getD i false = false
      rw [Array.getD_eq_getD_getElem?, Array.getElem?_eq_getElem (by omega)] at h2 ⊢
      exact h2
    have hS1 : (fun j => (listed.setIfInBounds i true).getD j false) i = true := by
      show (listed.setIfInBounds i true).getD i false = true
      rw [Array.getD_eq_getD_getElem?, Array.getElem?_setIfInBounds, if_pos rfl, if_pos (by omega)]; rfl
    have hS2 : ∀ k, k ≠ i → (fun j => (listed.setIfInBounds i true).getD j false) k = (fun j => listed.getD j false) k := by
      intro k hk
      show (listed.setIfInBounds i true).getD k false = listed.getD k false
      rw [Array.getD_eq_getD_getElem?, Array.getElem?_setIfInBounds, if_neg (fun e => hk e.symm), Array.getD_eq_getD_getElem?]
    have hcl' : Closed ops (fun j => (listed.setIfInBounds i true).getD j false) := by
      intro k o' hk ho' e he hb
      have base : listed.getD e.on false = true := by
        by_cases ek : k = i
        · subst ek; rw [ho] at ho'; cases ho'; exact h3 e he hb
        · exact hcl k o' (by rw [← hS2 k ek]; exact hk) ho' e he hb
      by_cases ee : e.on = i
      · rw [ee]; exact hS1
      · rw [hS2 _ ee]; exact base
    have hcnt' := cntU_dec hS hS1 hS2 ops.size h1
    have hat := z.agreeT v hcl h1 ho hS h3
    have hah := z.agreeH hl v hcl h1 ho hS h3
    have hdst : okDst a.tmps.size o.dst = true := by rw [hn]; exact okOps_at _ i o hok (by rw [Array.getElem?_toList]; exact ho)
    obtain ⟨st1, st2, st3⟩ := z.tc.step i o (by omega) h1 ho
    have hvop : vop o.op cx t = vop o.op cx (T i) := vop_looks cx ops o fun d hd => hat d (.inl hd)
    have hwan : wanted o.guard ops.toList cx t = wanted o.guard ops.toList cx (T i) := wanted_looks cx ops o fun d hd => hat d (.inl hd)
    show (match ops[i]? with | none => _ | some o => _)
    rw [ho]
    rcases st3 with ⟨w1, w2, w3, w4, w5, w6⟩ | ⟨w1, hx⟩
    · have hno := wanted_ok hp s.tm ops o (hwan.trans w1)
      simp only [hno, Bool.false_eq_true, if_false]
      have hv := z.more (g' := g) v hcl h1 ho hS h3 hS1 hS2 fun b => by
        by_cases hf : Foot (WR i) (N i) (N (i + 1)) b
        · rw [if_pos hf, w3]; exact hah b (.inr hf)
        · rw [if_neg hf]
      rw [w2] at hv
      exact ih _ g _ M _ w (by simpa using hsz) hcl' (by omega) hv ⟨s.rel, TmR.put s.tm undef_ok (dst_lt hdst), s.ro⟩ (by rw [Act.put_size]; exact hn) (hpost.later (bhd_put M.le_refl (Below.refl _ _) _ _))
    · have hyes := wanted_ok hp s.tm ops o (hwan.trans w1)
      simp only [hyes, if_true]
      obtain ⟨_, _, q3⟩ := z.locat hl h1 ho hx
      obtain ⟨g', k1, k2⟩ := q3 g hah
      have hv := z.more (g' := g') v hcl h1 ho hS h3 hS1 hS2 k2
      refine .inl (opX_snd hT hp hc (lg := .off) (nx := N i) ⟨s.rel, s.tm, Nat.le_trans hro (z.nmono hl i (by omega))⟩ o hdst (by rw [hvop]; exact k1 .off) fun M' w' x s' b => ?_)
      exact ih _ g' _ M' _ w' (by simpa using hsz) hcl' (by omega) hv ⟨s'.rel, s'.tm, hro⟩ (by rw [Act.put_size]; exact hn) (hpost.later b)
end
end Go.Vm
