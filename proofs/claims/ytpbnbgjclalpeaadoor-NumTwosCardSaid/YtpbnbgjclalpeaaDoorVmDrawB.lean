/- VM: regions that are drawn (second part): the run in the text's order, told by functions of the place; what the check of the logs says. -/
import Derived.Test.YtpbnbgjclalpeaaDoorVmDrawA
set_option linter.unusedVariables false
set_option linter.unusedSimpArgs false
namespace Go.Vm
/-- The run in the text's order. -/
structure Tc (call : CallT) (cx : Cx) (ops : Array Oper) (T : Nat → Tm) (H : Nat → Tr Ob) (N : Nat → Nat) (W : Nat → V) (RD WR : Nat → Nat) (F : Nat → List Fp) (i n : Nat) : Prop where
  step : ∀ k o, i ≤ k → k < n → ops[k]? = some o → T (k + 1) = putT o.dst (W k) (T k) ∧ F (k + 1) = .mk (RD k) (WR k) (N k) (N (k + 1)) :: F k ∧
    ((wanted o.guard ops.toList cx (T k) = some false ∧ W k = undefV ∧ H (k + 1) = H k ∧ N (k + 1) = N k ∧ RD k = 0 ∧ WR k = 0) ∨
     (wanted o.guard ops.toList cx (T k) = some true ∧ opX call (vop o.op cx (T k)) (H k) (N k) (.on 0 0) = .ok (W k) (.mk (H (k + 1)) (N (k + 1)) (.on (RD k) (WR k)))))
def upd {α : Type} (f : Nat → α) (i : Nat) (a : α) : Nat → α := fun k => if k = i then a else f k
theorem upd_same {α : Type} (f : Nat → α) (i : Nat) (a : α) : upd f i a i = a := if_pos rfl
theorem upd_ne {α : Type} (f : Nat → α) {i k : Nat} (a : α) (h : k ≠ i) : upd f i a k = f k := if_neg h
theorem trace_of {call : CallT} {cx : Cx} {ops : Array Oper} : ∀ (l : List Oper) (i : Nat) (fps : List Fp) (t : Tm) (h : Tr Ob) (nx : Nat) (lg : Lg) (oc : Oc) (h' : Tr Ob) (nx' : Nat) (lg' : Lg), ops.toList.drop i = l →
    DrF call cx ops.toList l fps t h nx lg = .ok oc (.mk h' nx' lg') → ∃ T H N W RD WR F, Tc call cx ops T H N W RD WR F i (i + l.length) ∧ T i = t ∧ H i = h ∧ N i = nx ∧ F i = fps ∧
      oc = .nm (T (i + l.length)) ∧ h' = H (i + l.length) ∧ nx' = N (i + l.length) ∧ okDr (F (i + l.length)) (befs ops.toList [] 0) (F (i + l.length)).length = true
  | [], i, fps, t, h, nx, lg, oc, h', nx', lg', hl, e => by
    unfold DrF at e
    cases hok : okDr fps (befs ops.toList [] 0) fps.length with
    | false => rw [hok] at e; cases e
    | true =>
      rw [hok] at e
      cases e
      exact ⟨fun _ => t, fun _ => h, fun _ => nx, fun _ => undefV, fun _ => 0, fun _ => 0, fun _ => fps, ⟨fun k o h1 h2 => by simp at h2; omega⟩, rfl, rfl, rfl, rfl, rfl, rfl, rfl, hok⟩
  | o :: l, i, fps, t, h, nx, lg, oc, h', nx', lg', hl, e => by
    have hoi : ops[i]? = some o := by
      rw [← Array.getElem?_toList]
      have := List.getElem?_drop (xs := ops.toList) (i := i) (j := 0)
      rw [hl] at this
      simpa using this.symm
    have hl' : ops.toList.drop (i + 1) = l := by
      have := List.drop_drop (i := 1) (j := i) (l := ops.toList)
      rw [hl] at this
      simpa [Nat.add_comm] using this.symm
    have glue : ∀ (v : V) (h1 : Tr Ob) (nx1 : Nat) (rd wr : Nat) (lg1 : Lg), DrF call cx ops.toList l (.mk rd wr nx nx1 :: fps) (putT o.dst v t) h1 nx1 lg1 = .ok oc (.mk h' nx' lg') →
        ((wanted o.guard ops.toList cx t = some false ∧ v = undefV ∧ h1 = h ∧ nx1 = nx ∧ rd = 0 ∧ wr = 0) ∨ (wanted o.guard ops.toList cx t = some true ∧ opX call (vop o.op cx t) h nx (.on 0 0) = .ok v (.mk h1 nx1 (.on rd wr)))) →
        ∃ T H N W RD WR F, Tc call cx ops T H N W RD WR F i (i + (o :: l).length) ∧ T i = t ∧ H i = h ∧ N i = nx ∧ F i = fps ∧
          oc = .nm (T (i + (o :: l).length)) ∧ h' = H (i + (o :: l).length) ∧ nx' = N (i + (o :: l).length) ∧ okDr (F (i + (o :: l).length)) (befs ops.toList [] 0) (F (i + (o :: l).length)).length = true := by
      intro v h1 nx1 rd wr lg1 e1 hcase
      obtain ⟨T, H, N, W, RD, WR, F, q, q1, q2, q3, q4, q5, q6, q7, q8⟩ := trace_of l (i + 1) _ _ _ _ _ _ _ _ _ hl' e1
      have hlen : i + (o :: l).length = i + 1 + l.length := by rw [List.length_cons]; omega
      rw [hlen]
      refine ⟨upd T i t, upd H i h, upd N i nx, upd W i v, upd RD i rd, upd WR i wr, upd F i fps, ⟨?_⟩, upd_same _ _ _, upd_same _ _ _, upd_same _ _ _, upd_same _ _ _, ?_, ?_, ?_, ?_⟩
      · intro k o' hk1 hk2 ho'
        by_cases hk : k = i
        · subst hk
          rw [hoi] at ho'; cases ho'
          simp only [upd_same]
          rw [upd_ne T t (show k + 1 ≠ k by omega), upd_ne H h (show k + 1 ≠ k by omega), upd_ne N nx (show k + 1 ≠ k by omega), upd_ne F fps (show k + 1 ≠ k by omega), q1, q2, q3, q4]
          exact ⟨rfl, rfl, hcase⟩
        · rw [upd_ne T t (show k + 1 ≠ i by omega), upd_ne H h (show k + 1 ≠ i by omega), upd_ne N nx (show k + 1 ≠ i by omega), upd_ne F fps (show k + 1 ≠ i by omega), upd_ne T t hk, upd_ne H h hk, upd_ne N nx hk, upd_ne F fps hk, upd_ne W v hk, upd_ne RD rd hk, upd_ne WR wr hk]
          exact q.step k o' (by omega) hk2 ho'
      · rw [upd_ne T t (show i + 1 + l.length ≠ i by omega)]; exact q5
      · rw [upd_ne H h (show i + 1 + l.length ≠ i by omega)]; exact q6
      · rw [upd_ne N nx (show i + 1 + l.length ≠ i by omega)]; exact q7
      · rw [upd_ne F fps (show i + 1 + l.length ≠ i by omega)]; exact q8
    unfold DrF at e
    cases hw : wanted o.guard ops.toList cx t with
    | none => rw [hw] at e; cases e
    | some c =>
      rw [hw] at e
      cases c with
      | false => exact glue undefV h nx 0 0 lg e (.inl ⟨hw, rfl, rfl, rfl, rfl, rfl⟩)
      | true =>
        have e : bindR (markF (opX call (vop o.op cx t))) (fun m => DrF call cx ops.toList l (.mk m.rd m.wr m.lo m.hi :: fps) (putT o.dst m.val t)) h nx lg = .ok oc (.mk h' nx' lg') := e
        unfold bindR markF at e
        cases hx : opX call (vop o.op cx t) h nx (.on 0 0) with
        | bad => rw [hx] at e; cases e
        | ok v σ =>
          rw [hx] at e
          cases σ with
          | mk h1 nx1 lg1 =>
            cases lg1 with
            | off => cases e
            | on rd wr => exact glue v h1 nx1 rd wr _ e (.inr ⟨hw, hx⟩)

/-! ### what the check says -/
/-- Operation j stands ahead of operation i. -/
noncomputable def bitsAt (ops : Array Oper) : Nat → List Nat
  | 0 => []
  | k + 1 => (match ops[k]? with | some o => bitsOf (bitsAt ops k) k o.after.toList | none => 0) :: bitsAt ops k
noncomputable def bit (ops : Array Oper) (i j : Nat) : Bool := Nat.testBit ((bitsAt ops (i + 1)).headD 0) j
theorem befs_eq (ops : Array Oper) : ∀ (l : List Oper) (i : Nat), ops.toList.drop i = l → befs l (bitsAt ops i) i = bitsAt ops (i + l.length)
  | [], i, _ => rfl
  | o :: l, i, hl => by
    have hoi : ops[i]? = some o := by
      rw [← Array.getElem?_toList]
      have := List.getElem?_drop (xs := ops.toList) (i := i) (j := 0)
      rw [hl] at this
      simpa using this.symm
    have hl' : ops.toList.drop (i + 1) = l := by
      have := List.drop_drop (i := 1) (j := i) (l := ops.toList)
      rw [hl] at this
      simpa [Nat.add_comm] using this.symm
    have ih := befs_eq ops l (i + 1) hl'
    rw [List.length_cons, show i + (l.length + 1) = i + 1 + l.length by omega, ← ih]
    show befs l (bitsOf (bitsAt ops i) i o.after.toList :: bitsAt ops i) (i + 1) = befs l (bitsAt ops (i + 1)) (i + 1)
    simp only [bitsAt, hoi]
theorem bool_and {c x : Bool} (h : (Bool.rec false x c : Bool) = true) : c = true ∧ x = true := by
  cases c
  · cases h
  · exact ⟨rfl, h⟩
theorem range_has (lo hi b : Nat) : (rangeM lo hi).testBit b = true ↔ lo ≤ b ∧ b < hi := by
  show (Nat.shiftLeft (Nat.sub (2 ^ (hi - lo)) 1) lo).testBit b = true ↔ _
  show (((2 ^ (hi - lo)) - 1) <<< lo).testBit b = true ↔ _
  rw [Nat.testBit_shiftLeft, Nat.testBit_two_pow_sub_one]
  simp
  omega
theorem foot_has (wr lo hi b : Nat) : (footM wr lo hi).testBit b = true ↔ Foot wr lo hi b := by
  show (wr ||| rangeM lo hi).testBit b = true ↔ _
  rw [has_or, range_has]
  rfl
theorem land_zero {a b : Nat} (h : Nat.beq (Nat.land a b) 0 = true) (c : Nat) : ¬ (a.testBit c = true ∧ b.testBit c = true) := by
  rintro ⟨h1, h2⟩
  have h0 : a &&& b = 0 := Nat.eq_of_beq_eq_true h
  have : (a &&& b).testBit c = true := by rw [Nat.testBit_and, h1, h2]; rfl
  rw [h0] at this
  exact has_zero c this
/-- Two operations that do not meet. -/
theorem okPair_ok {rd wr lo hi rd' wr' lo' hi' : Nat} (h : okPair (.mk rd wr lo hi) (.mk rd' wr' lo' hi') = true) :
    (∀ b, (rd.testBit b = true ∨ Foot wr lo hi b) → ¬ Foot wr' lo' hi' b) ∧ (∀ b, Foot wr lo hi b → ¬ (rd'.testBit b = true ∨ Foot wr' lo' hi' b)) := by
  obtain ⟨h1, h2⟩ := bool_and h
  refine ⟨fun b hb hb' => land_zero h1 b ⟨?_, (foot_has _ _ _ _).2 hb'⟩, fun b hb hb' => land_zero h2 b ⟨(foot_has _ _ _ _).2 hb, ?_⟩⟩
  · refine (has_or _ _ _).2 (hb.imp id fun x => (foot_has _ _ _ _).2 x)
  · refine (has_or _ _ _).2 (hb'.imp id fun x => (foot_has _ _ _ _).2 x)
end Go.Vm
