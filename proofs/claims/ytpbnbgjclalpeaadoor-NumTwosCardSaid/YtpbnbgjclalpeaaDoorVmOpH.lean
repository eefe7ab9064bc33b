/- VM: its operations are the model's, one by one (eighth part): operators. -/
import Derived.Test.YtpbnbgjclalpeaaDoorVmOpG
import Derived.Laws.StructEq
set_option linter.unusedVariables false
set_option linter.unusedSimpArgs false
namespace Go.Vm
open Go.RowKit
section ops
variable {env : Nat → Int} {n0 : Nat} {P : Program} {M : Mp} {h : Tr Ob} {w : World} {cx : Cx}

/-! ### strings that are the same -/
def posR (r : RL Nat) : Prop := ∀ x ∈ r, 0 < x.2
theorem noNil_toList : ∀ r : RL Nat, (noNil r).toList = r.toList
  | [] => rfl
  | x :: r => by
    simp only [noNil]
    cases hb : Nat.beq x.2 0 with
    | true =>
      have : x.2 = 0 := Nat.eq_of_beq_eq_true hb
      rw [RL.toList_cons, this, noNil_toList r]; simp
    | false => rw [RL.toList_cons, RL.toList_cons, noNil_toList r]
theorem noNil_pos : ∀ r : RL Nat, posR (noNil r)
  | [] => fun x hx => by cases hx
  | y :: r => by
    simp only [noNil]
    cases hb : Nat.beq y.2 0 with
    | true => exact noNil_pos r
    | false =>
      intro x hx
      rcases List.mem_cons.1 hx with e | e
      · subst e
        rw [RL.beq_dec] at hb
        have := of_decide_eq_false hb
        omega
      · exact noNil_pos r x e
theorem noNil_length : ∀ r : RL Nat, (noNil r).length ≤ r.length
  | [] => Nat.le_refl _
  | y :: r => by
    simp only [noNil]
    have := noNil_length r
    cases hb : Nat.beq y.2 0 <;> simp <;> omega
theorem sameRL_eq : ∀ (f : Nat) (a b : RL Nat), posR a → posR b → a.length + b.length < f → sameRL f a b = decide (a.toList = b.toList)
  | 0, _, _, _, _, h => by omega
  | f + 1, [], [], _, _, _ => by simp [sameRL]
  | f + 1, [], y :: s, _, hb, _ => by
    have : 0 < y.2 := hb y List.mem_cons_self
    rw [RL.toList_cons, show y.2 = (y.2 - 1) + 1 by omega]
    simp [sameRL, RL.toList_nil, List.replicate_succ]
  | f + 1, x :: r, [], ha, _, _ => by
    have : 0 < x.2 := ha x List.mem_cons_self
    rw [RL.toList_cons, show x.2 = (x.2 - 1) + 1 by omega]
    simp [sameRL, RL.toList_nil, List.replicate_succ]
  | f + 1, (u, m) :: r, (v, n) :: s, ha, hb, hf => by
    have hm : 0 < m := ha (u, m) List.mem_cons_self
    have hn : 0 < n := hb (v, n) List.mem_cons_self
    have ha' : posR r := fun x hx => ha x (List.mem_cons_of_mem _ hx)
    have hb' : posR s := fun x hx => hb x (List.mem_cons_of_mem _ hx)
    simp only [List.length_cons] at hf
    simp only [sameRL, RL.toList_cons]
    cases huv : Nat.beq u v with
    | false =>
      rw [RL.beq_dec] at huv
      have hne := of_decide_eq_false huv
      obtain ⟨m, rfl⟩ : ∃ m', m = m' + 1 := ⟨m - 1, by omega⟩
      obtain ⟨n, rfl⟩ : ∃ m', n = m' + 1 := ⟨n - 1, by omega⟩
      simp [List.replicate_succ, hne]
    | true =>
      have := Nat.eq_of_beq_eq_true huv
      subst this
      simp only
      cases hmn : Nat.beq m n with
      | true =>
        have := Nat.eq_of_beq_eq_true hmn
        subst this
        simp only
        rw [sameRL_eq f r s ha' hb' (by omega)]
        congr 1
        simp
      | false =>
        rw [RL.beq_dec] at hmn
        have hne := of_decide_eq_false hmn
        simp only
        cases hlt : Nat.blt m n with
        | true =>
          have hlt : m < n := Nat.le_of_ble_eq_true hlt
          simp only
          rw [sameRL_eq f r ((u, n - m) :: s) ha' (fun x hx => by
            rcases List.mem_cons.1 hx with e | e
            · subst e; show 0 < n - m; omega
            · exact hb' x e) (by simp; omega)]
          congr 1
          rw [RL.toList_cons]
          conv => rhs; rw [show n = m + (n - m) by omega, ← List.replicate_append_replicate, List.append_assoc, List.append_cancel_left_eq]
        | false =>
          have hge : n < m := by
            have : ¬ (m + 1 ≤ n) := by
              intro hh
              have := Nat.ble_eq_true_of_le hh
              rw [show Nat.ble (m + 1) n = Nat.blt m n from rfl, hlt] at this
              cases this
            omega
          simp only
          rw [sameRL_eq f ((u, m - n) :: r) s (fun x hx => by
            rcases List.mem_cons.1 hx with e | e
            · subst e; show 0 < m - n; omega
            · exact ha' x e) hb' (by simp; omega)]
          congr 1
          rw [RL.toList_cons]
          conv => rhs; rw [show m = n + (m - n) by omega, ← List.replicate_append_replicate, List.append_assoc, List.append_cancel_left_eq]
theorem sameStr_eq (a b : RL Nat) : sameStr a b = decide (a.toList = b.toList) := by
  unfold sameStr
  cases hl : Nat.beq a.len b.len with
  | false =>
    rw [RL.beq_dec, RL.len_eq, RL.len_eq] at hl
    have := of_decide_eq_false hl
    symm
    rw [decide_eq_false_iff_not]
    intro e
    exact this (by rw [e])
  | true =>
    show sameRL _ _ _ = _
    have h1 := noNil_length a
    have h2 := noNil_length b
    rw [sameRL_eq _ _ _ (noNil_pos a) (noNil_pos b) (by omega), noNil_toList, noNil_toList]
theorem map_inj_lt : ∀ (l l' : List Nat), (∀ n ∈ l, n < 256) → (∀ n ∈ l', n < 256) → l.map UInt8.ofNat = l'.map UInt8.ofNat → l = l'
  | [], [], _, _, _ => rfl
  | [], _ :: _, _, _, e => by cases e
  | _ :: _, [], _, _, e => by cases e
  | a :: l, b :: l', h1, h2, e => by
    simp only [List.map_cons, List.cons.injEq] at e
    have ha : a < 256 := h1 a List.mem_cons_self
    have hb : b < 256 := h2 b List.mem_cons_self
    have e1 : (UInt8.ofNat a).toNat = (UInt8.ofNat b).toNat := by rw [e.1]
    have : a = b := by simp at e1; omega
    rw [this, map_inj_lt l l' (fun n hn => h1 n (List.mem_cons_of_mem _ hn)) (fun n hn => h2 n (List.mem_cons_of_mem _ hn)) e.2]
theorem sameStr_str {a b : RL Nat} {s t : ByteArray} (h1 : s.data.toList = bytesOf a) (h2 : okBytes a) (k1 : t.data.toList = bytesOf b) (k2 : okBytes b) : sameStr a b = (s.toList == t.toList) := by
  rw [sameStr_eq, ByteArray.toList_eq, ByteArray.toList_eq, h1, k1, Bool.eq_iff_iff]
  simp only [decide_eq_true_eq, beq_iff_eq]
  exact ⟨fun e => by unfold bytesOf; rw [e], fun e => map_inj_lt _ _ h2 k2 e⟩

/-! ### numbers -/
theorem natpow (n : Nat) : ((Int.ofNat (Nat.pow 2 n) : Int)) = (2 : Int) ^ n := by
  show ((2 ^ n : Nat) : Int) = _
  push_cast
  rfl
theorem shl_den (k : IntKind) (x y : Int) : IOp.den .shl k x y = x * 2 ^ (min y.toNat k.bits) := by
  show x * Int.ofNat (Nat.pow 2 (Nat.min y.toNat (bitsN k))) = _
  rw [natpow, bitsN_eq]
theorem shr_den (k : IntKind) (x y : Int) : IOp.den .shr k x y = x.fdiv (2 ^ (min y.toNat k.bits)) := by
  show x.fdiv (Int.ofNat (Nat.pow 2 (Nat.min y.toNat (bitsN k)))) = _
  rw [natpow, bitsN_eq]
theorem guard_run (op : BinOp) (t : TypeId) (x y : Operand) {a b : Value} (h1 : ∀ e, a ≠ .agg e) (h2 : a ≠ .nilIface) : (eqGuard op t x y a b).run P w = .ok () w := by
  unfold eqGuard
  cases op <;> cases a <;> first
    | rfl
    | exact absurd rfl (h1 _)
    | exact absurd rfl h2
/-- The guard and the operation. -/
theorem bin_run {op : BinOp} {t : TypeId} {x y : Operand} {a b v : Value} (h1 : (eqGuard op t x y a b).run P w = .ok () w) (h2 : (binOp op t a b).run P w = .ok v w) :
    (do eqGuard op t x y a b; binOp op t a b : Sem Value).run P w = .ok v w := by
  rw [Sem.run_bind, h1, Result.andThen_ok, h2]
theorem binI_snd (r : Rel env n0 M h w) (op : BinOp) (k : IntKind) (e e2 : IE) (t : TypeId) (x y : Operand) (hs : op ≠ .shl) (hs2 : op ≠ .shr) :
    SndV env n0 P M h w (binI op k e e2) (do eqGuard op t x y (.int k (e.den env)) (.int k (e2.den env)); binOp op t (.int k (e.den env)) (.int k (e2.den env))) := by
  have hg : (eqGuard op t x y (.int k (e.den env)) (.int k (e2.den env))).run P w = .ok () w := guard_run op t x y (fun _ e => by cases e) (fun e => by cases e)
  cases op with
  | shl => exact absurd rfl hs
  | shr => exact absurd rfl hs2
  | add => exact Snd.ret r (x := .int k (k.wrap (e.den env + e2.den env))) (bin_run hg (by simp [binOp, Op.intArith])) (VR.i' (by rw [mkWrap_den, mkBin_den]; rfl))
  | sub => exact Snd.ret r (x := .int k (k.wrap (e.den env - e2.den env))) (bin_run hg (by simp [binOp, Op.intArith])) (VR.i' (by rw [mkWrap_den, mkBin_den]; show k.wrap (isub _ _) = _; rw [isub_eq]))
  | mul => exact Snd.ret r (x := .int k (k.wrap (e.den env * e2.den env))) (bin_run hg (by simp [binOp, Op.intArith])) (VR.i' (by rw [mkWrap_den, mkBin_den]; rfl))
  | quo =>
    show SndV env n0 P M h w (divI e2 k e) _
    match e2, hg with
    | .c n, hg =>
      show SndV env n0 P M h w (match ieqb n 0 with | true => .bad 51 | false => .ret (.i k (mkWrap (mkBin e .tdiv k (.c n)) k))) _
      cases hz : ieqb n 0 with
      | true => exact Snd.bad
      | false =>
        rw [ieqb_eq] at hz
        have hn : n ≠ 0 := by simpa using hz
        exact Snd.ret r (x := .int k (k.wrap ((e.den env).tdiv n))) (bin_run hg (by simp [binOp, Op.intDiv, IE.den, hn])) (VR.i' (by rw [mkWrap_den, mkBin_den]; rfl))
    | .v _, _ => exact Snd.bad
    | .wrap _ _, _ => exact Snd.bad
    | .bin .., _ => exact Snd.bad
  | rem =>
    show SndV env n0 P M h w (remI e2 k e) _
    match e2, hg with
    | .c n, hg =>
      show SndV env n0 P M h w (match ieqb n 0 with | true => .bad 53 | false => .ret (.i k (mkBin e .tmod k (.c n)))) _
      cases hz : ieqb n 0 with
      | true => exact Snd.bad
      | false =>
        rw [ieqb_eq] at hz
        have hn : n ≠ 0 := by simpa using hz
        exact Snd.ret r (x := .int k ((e.den env).tmod n)) (bin_run hg (by simp [binOp, Op.intDiv, IE.den, hn])) (VR.i' (by rw [mkBin_den]; rfl))
    | .v _, _ => exact Snd.bad
    | .wrap _ _, _ => exact Snd.bad
    | .bin .., _ => exact Snd.bad
  | and => exact Snd.ret r (x := .int k _) (bin_run hg (by simp only [binOp, Op.intBits, ne_eq, not_true_eq_false, if_false, Sem.run_pure]; rfl)) (VR.i' (by rw [mkBin_den]; exact andF_eq _ _ _))
  | or => exact Snd.ret r (x := .int k _) (bin_run hg (by simp only [binOp, Op.intBits, ne_eq, not_true_eq_false, if_false, Sem.run_pure]; rfl)) (VR.i' (by rw [mkBin_den]; exact orF_eq _ _ _))
  | xor => exact Snd.ret r (x := .int k _) (bin_run hg (by simp only [binOp, Op.intBits, ne_eq, not_true_eq_false, if_false, Sem.run_pure]; rfl)) (VR.i' (by rw [mkBin_den]; exact xorF_eq _ _ _))
  | andNot => exact Snd.ret r (x := .int k _) (bin_run hg (by simp only [binOp, Op.intBits, ne_eq, not_true_eq_false, if_false, Sem.run_pure]; rfl)) (VR.i' (by rw [mkBin_den]; exact andNotF_eq _ _ _))
  | eql => exact Snd.ret r (x := .bool (e.den env == e2.den env)) (bin_run hg (by simp [binOp, Op.intCmp])) (VR.b' (mkEq_den env _ _))
  | neq => exact Snd.ret r (x := .bool (e.den env != e2.den env)) (bin_run hg (by simp [binOp, Op.intCmp])) (VR.b' (by rw [mkNot_den, mkEq_den]; rfl))
  | lss => exact Snd.ret r (x := .bool (decide (e.den env < e2.den env))) (bin_run hg (by simp [binOp, Op.intCmp])) (VR.b' (mkLt_den env _ _))
  | leq => exact Snd.ret r (x := .bool (decide (e.den env ≤ e2.den env))) (bin_run hg (by simp [binOp, Op.intCmp])) (VR.b' (mkLe_den env _ _))
  | gtr => exact Snd.ret r (x := .bool (decide (e2.den env < e.den env))) (bin_run hg (by simp [binOp, Op.intCmp])) (VR.b' (mkLt_den env _ _))
  | geq => exact Snd.ret r (x := .bool (decide (e2.den env ≤ e.den env))) (bin_run hg (by simp [binOp, Op.intCmp])) (VR.b' (mkLe_den env _ _))
theorem retB_snd (r : Rel env n0 M h w) {o : Option BE} {s : Sem Value} {b : Bool} (ho : ∀ e, o = some e → e.den env = b) (hs : o ≠ none → s.run P w = .ok (.bool b) w) : SndV env n0 P M h w (retB o) s := by
  cases o with
  | none => exact Snd.bad
  | some e => exact Snd.ret r (hs (by simp)) (VR.b' (ho e rfl))
theorem retNB_snd (r : Rel env n0 M h w) {o : Option BE} {s : Sem Value} {b : Bool} (ho : ∀ e, o = some e → e.den env = b) (hs : o ≠ none → s.run P w = .ok (.bool (!b)) w) : SndV env n0 P M h w (retNB o) s := by
  cases o with
  | none => exact Snd.bad
  | some e => exact Snd.ret r (hs (by simp)) (VR.b' (by rw [mkNot_den, ho e rfl]))
end ops
end Go.Vm
