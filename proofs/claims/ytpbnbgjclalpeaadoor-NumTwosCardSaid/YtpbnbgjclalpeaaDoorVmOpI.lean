/- VM: its operations are the model's, one by one (ninth part): equality, operators of all kinds. -/
import Derived.Test.YtpbnbgjclalpeaaDoorVmOpH
set_option linter.unusedVariables false
set_option linter.unusedSimpArgs false
namespace Go.Vm
open Go.RowKit
section ops
variable {env : Nat → Int} {n0 : Nat} {P : Program} {M : Mp} {h : Tr Ob} {w : World} {cx : Cx}

theorem eqWith_den (e : BE) (b : Bool) : (eqWith e b).den env = (e.den env == b) := by
  cases b with
  | true => show e.den env = _; simp
  | false => show (mkNot e).den env = _; rw [mkNot_den]; cases e.den env <;> rfl
theorem eqB2_den {a b e : BE} (h : eqB2 a b = some e) : e.den env = (a.den env == b.den env) := by
  have hc : ∀ (a : BE) (c : Bool), eqWith a c = e → e.den env = (a.den env == c) := fun a c h => by rw [← h]; exact eqWith_den a c
  cases a with
  | c a =>
    have := hc b a (Option.some.inj h)
    rw [this]
    show _ = (a == b.den env)
    cases a <;> cases b.den env <;> rfl
  | _ =>
    cases b with
    | c b => exact hc _ b (Option.some.inj h)
    | _ => cases h
theorem veq_snd' (hT : TabOk P cx) {a b : V} {a' b' : Value} (ha : VR env M a a') (hb : VR env M b b') (t : TypeId) (cst : Bool) {e : BE} (he : veq (tk cx t) cx cst a b = some e) (w : World) (d : Nat) :
    (Op.equalIn (d + 1) t a' b').run P w = .ok (e.den env) w := by
  have hk := tk_ok hT t
  cases hkk : tk cx t with
  | bool =>
    rw [hkk] at hk he
    have hu : P.underlying t = some .bool := hk
    replace he : eqBB a b = some e := he
    cases ha with
    | b ba => cases hb with
      | b bb =>
        rw [eqB2_den (a := ba) (b := bb) he]
        simp only [Op.equalIn, Sem.run_bind, run_und hu, Result.andThen_ok, Sem.run_pure]
      | _ => cases he
    | _ => cases he
  | pointer el =>
    rw [hkk] at hk he
    have hu : P.underlying t = some (.pointer el) := hk
    replace he : eqPP a (tsize cx el) b = some e := he
    cases ha with
    | pn => cases hb with
      | pn => cases he; simp only [Op.equalIn, Sem.run_bind, run_und hu, Result.andThen_ok, Sem.run_pure]; rfl
      | p b o pl hM => cases he; simp only [Op.equalIn, Sem.run_bind, run_und hu, Result.andThen_ok, Sem.run_pure]; rfl
      | _ => cases he
    | p b1 o1 pl1 hM1 => cases hb with
      | pn => cases he; simp only [Op.equalIn, Sem.run_bind, run_und hu, Result.andThen_ok, Sem.run_pure]; rfl
      | p b2 o2 pl2 hM2 =>
        replace he : (match Nat.beq b1 b2 with | true => eqSame (tsize cx el) o1 o2 | false => none) = some e := he
        cases hbb : Nat.beq b1 b2 with
        | false => rw [hbb] at he; cases he
        | true =>
          rw [hbb] at he
          have := Nat.eq_of_beq_eq_true hbb
          subst this
          rw [hM1] at hM2; cases hM2
          cases hts : tsize cx el with
          | none => rw [hts] at he; cases he
          | some n =>
            rw [hts] at he
            replace he : (match Nat.beq o1 o2 with | true => some (.c true) | false => match Nat.beq n 0 with | true => none | false => some (.c false)) = some e := he
            have hsz := tsize_ok hT hts w
            cases ho : Nat.beq o1 o2 with
            | true =>
              rw [ho] at he
              have := Nat.eq_of_beq_eq_true ho
              subst this
              cases he
              by_cases hn : n = 0
              · subst hn
                simp [Op.equalIn, Sem.run_bind, run_und hu, Result.andThen_ok, hsz, BE.den]
              · simp [Op.equalIn, Sem.run_bind, run_und hu, Result.andThen_ok, hsz, hn, sameAddr, BE.den]
            | false =>
              rw [ho] at he
              have hoo : o1 ≠ o2 := by rw [RL.beq_dec] at ho; exact of_decide_eq_false ho
              cases hn0 : Nat.beq n 0 with
              | true => rw [hn0] at he; cases he
              | false =>
                rw [hn0] at he
                cases he
                have hn : n ≠ 0 := by rw [RL.beq_dec] at hn0; exact of_decide_eq_false hn0
                simp [Op.equalIn, Sem.run_bind, run_und hu, Result.andThen_ok, hsz, hn, sameAddr, BE.den, hoo]
      | _ => cases he
    | _ => cases he
  | slice el =>
    rw [hkk] at hk he
    have hu : P.underlying t = some (.slice el) := hk
    replace he : eqSl a b = some e := he
    cases ha with
    | sn l c => cases hb with
      | sn l2 c2 => cases he; simp only [Op.equalIn, Sem.run_bind, run_und hu, Result.andThen_ok, Sem.run_pure]; rfl
      | sl => cases he; simp only [Op.equalIn, Sem.run_bind, run_und hu, Result.andThen_ok, Sem.run_pure]; rfl
      | _ => cases he
    | sl => cases hb with
      | sn l2 c2 => cases he; simp only [Op.equalIn, Sem.run_bind, run_und hu, Result.andThen_ok, Sem.run_pure]; rfl
      | _ => cases he
    | _ => cases he
  | map mk me =>
    rw [hkk] at hk he
    have hu : P.underlying t = some (.map mk me) := hk
    replace he : eqMM a b = some e := he
    cases ha with
    | mn => cases hb with
      | mn => cases he; simp only [Op.equalIn, Sem.run_bind, run_und hu, Result.andThen_ok, Sem.run_pure]; rfl
      | m => cases he; simp only [Op.equalIn, Sem.run_bind, run_und hu, Result.andThen_ok, Sem.run_pure]; rfl
      | _ => cases he
    | m => cases hb with
      | mn => cases he; simp only [Op.equalIn, Sem.run_bind, run_und hu, Result.andThen_ok, Sem.run_pure]; rfl
      | _ => cases he
    | _ => cases he
  | iface em =>
    rw [hkk] at hk he
    obtain ⟨ms, hu, _⟩ := hk
    replace he : eqIf (em || cst) a b = some e := he
    cases ha with
    | ni => cases hb with
      | ni =>
        replace he : (match (em || cst) with | true => some (.c true) | false => none) = some e := he
        cases hx : (em || cst) with
        | false => rw [hx] at he; cases he
        | true => rw [hx] at he; cases he; simp only [Op.equalIn, Sem.run_bind, run_und hu, Result.andThen_ok, Sem.run_pure]; rfl
      | ifc => cases he; simp only [Op.equalIn, Sem.run_bind, run_und hu, Result.andThen_ok, Sem.run_pure]; rfl
      | _ => cases he
    | ifc => cases hb with
      | ni => cases he; simp only [Op.equalIn, Sem.run_bind, run_und hu, Result.andThen_ok, Sem.run_pure]; rfl
      | _ => cases he
    | _ => cases he
  | func =>
    rw [hkk] at hk he
    obtain ⟨x1, x2, x3, hu⟩ := hk
    replace he : eqFn a b = some e := he
    cases ha with
    | nf => cases hb with
      | nf => cases he; simp only [Op.equalIn, Sem.run_bind, run_und hu, Result.andThen_ok, Sem.run_pure]; rfl
      | fn => cases he; simp only [Op.equalIn, Sem.run_bind, run_und hu, Result.andThen_ok, Sem.run_pure]; rfl
      | _ => cases he
    | fn => cases hb with
      | nf => cases he; simp only [Op.equalIn, Sem.run_bind, run_und hu, Result.andThen_ok, Sem.run_pure]; rfl
      | _ => cases he
    | _ => cases he
  | _ => rw [hkk] at he; cases he
theorem veq_snd (hT : TabOk P cx) {a b : V} {a' b' : Value} (ha : VR env M a a') (hb : VR env M b b') (t : TypeId) (cst : Bool) {e : BE} (he : veq (tk cx t) cx cst a b = some e) (w : World) :
    (Op.equal t a' b').run P w = .ok (e.den env) w := veq_snd' hT ha hb t cst he w 9999
theorem cstO_eq (x : Operand) : cstO x = true ↔ ∃ v, x = .const v := by cases x <;> simp [cstO]
/-- The guard before an equality that the VM answers. -/
theorem veq_guard (hT : TabOk P cx) {a b : V} {a' b' : Value} (ha : VR env M a a') (hb : VR env M b b') (op : BinOp) (t : TypeId) (x y : Operand) {e : BE} (he : veq (tk cx t) cx (cstO x || cstO y) a b = some e) (w : World) :
    (eqGuard op t x y a' b').run P w = .ok () w := by
  by_cases h1 : ∃ l, a' = .agg l
  · obtain ⟨l, rfl⟩ := h1
    cases ha
    cases htk : tk cx t <;> (rw [htk] at he; cases he)
  · by_cases h2 : a' = .nilIface
    · subst h2
      cases ha
      by_cases h3 : b' = .nilIface
      · subst h3
        cases hb
        have hk := tk_ok hT t
        cases htk : tk cx t with
        | iface em =>
          rw [htk] at he hk
          obtain ⟨ms, hu, hms⟩ := hk
          replace he : (match (em || (cstO x || cstO y)) with | true => some (.c true) | false => none) = some e := he
          cases hx : (em || (cstO x || cstO y)) with
          | false => rw [hx] at he; cases he
          | true =>
            unfold eqGuard
            cases op <;> try rfl
            all_goals
              cases hcx : cstO x with
              | true => obtain ⟨v, rfl⟩ := (cstO_eq x).1 hcx; rfl
              | false =>
                cases hcy : cstO y with
                | true =>
                  obtain ⟨v, rfl⟩ := (cstO_eq y).1 hcy
                  cases x <;> rfl
                | false =>
                  rw [hcx, hcy] at hx
                  have hem : em = true := by simpa using hx
                  rw [hem] at hms
                  have hg' : ∀ d, (Op.eqGuardIn (d + 1) t .nilIface .nilIface).run P w = .ok false w := by
                    intro d
                    simp only [Op.eqGuardIn, Sem.run_bind, run_und hu, Result.andThen_ok, hms]
                    rfl
                  have hg : (Op.eqGuardIn Op.maxDepth t .nilIface .nilIface).run P w = .ok false w := hg' 9999
                  cases x <;> cases y <;> first
                    | (cases hcx; done)
                    | (cases hcy; done)
                    | (simp [hg])
        | _ => rw [htk] at he; cases he
      · unfold eqGuard
        cases op <;> cases b' <;> first
          | rfl
          | exact absurd rfl h3
    · exact guard_run op t x y (fun e h => h1 ⟨e, h⟩) h2
theorem other_run {a' b' : Value} (hi : ∀ k n, a' ≠ .int k n) (hs : ∀ s, a' ≠ .string s) (hf : ∀ k n, a' ≠ .float k n) (hc : ∀ k n m, a' ≠ .complex k n m) (t : TypeId) :
    binOp .eql t a' b' = (do pure (.bool (← Op.equal t a' b'))) ∧ binOp .neq t a' b' = (do pure (.bool (!(← Op.equal t a' b')))) := by
  cases a' <;> first
    | exact ⟨rfl, rfl⟩
    | exact absurd rfl (hi _ _)
    | exact absurd rfl (hs _)
    | exact absurd rfl (hf _ _)
    | exact absurd rfl (hc _ _ _)
theorem other_snd (hT : TabOk P cx) (r : Rel env n0 M h w) {a b : V} {a' b' : Value} (ha : VR env M a a') (hb : VR env M b b') (op : BinOp) (t : TypeId) (x y : Operand)
    (hi : ∀ k n, a' ≠ .int k n) (hs : ∀ s, a' ≠ .string s) (hf : ∀ k n, a' ≠ .float k n) (hc : ∀ k n m, a' ≠ .complex k n m) :
    SndV env n0 P M h w (binOther op (veq (tk cx t) cx (cstO x || cstO y) a b)) (do eqGuard op t x y a' b'; binOp op t a' b') := by
  obtain ⟨o1, o2⟩ := other_run (b' := b') hi hs hf hc t
  cases hv : veq (tk cx t) cx (cstO x || cstO y) a b with
  | none => cases op <;> exact Snd.bad
  | some e =>
    have hg := fun op => veq_guard hT ha hb op t x y hv w
    have he := veq_snd hT ha hb t _ hv w
    cases op with
    | eql => exact retB_snd (o := some e) r (b := e.den env) (fun e' h => by cases h; rfl) fun _ => bin_run (hg _) (by rw [o1, Sem.run_bind, he]; rfl)
    | neq => exact retNB_snd (o := some e) r (b := e.den env) (fun e' h => by cases h; rfl) fun _ => bin_run (hg _) (by rw [o2, Sem.run_bind, he]; rfl)
    | _ => exact Snd.bad
theorem bin_snd (hT : TabOk P cx) (hp : PcOk env cx.pc) (r : Rel env n0 M h w) {a b : V} {a' b' : Value} (ha : VR env M a a') (hb : VR env M b b') (op : BinOp) (t : TypeId) (x y : Operand) :
    SndV env n0 P M h w (vbin a op b (tk cx t) cx (cstO x || cstO y)) (do eqGuard op t x y a' b'; binOp op t a' b') := by
  cases ha with
  | i k e =>
    cases hb with
    | i l e2 =>
      show SndV env n0 P M h w (binZ op k e l e2 cx (isC e2)) _
      have hg : ∀ op, (eqGuard op t x y (.int k (e.den env)) (.int l (e2.den env))).run P w = .ok () w := fun op => guard_run op t x y (fun _ e => by cases e) (fun e => by cases e)
      have other : ∀ (hs : op ≠ .shl) (hs2 : op ≠ .shr), SndV env n0 P M h w (match keq k l with | true => binI op k e e2 | false => .bad 50) (do eqGuard op t x y (.int k (e.den env)) (.int l (e2.den env)); binOp op t (.int k (e.den env)) (.int l (e2.den env))) := by
        intro h1 h2
        cases hkl : keq k l with
        | false => exact Snd.bad
        | true =>
          have := (keq_eq k l).1 hkl
          subst this
          exact binI_snd r op k e e2 t x y h1 h2
      have old : SndV env n0 P M h w (binII op k e l e2) (do eqGuard op t x y (.int k (e.den env)) (.int l (e2.den env)); binOp op t (.int k (e.den env)) (.int l (e2.den env))) := by
        cases op with
        | shl =>
          show SndV env n0 P M h w (shlI e2 k e) _
          match e2, hg with
          | .c n, hg =>
            show SndV env n0 P M h w (match ileb 0 n with | true => .ret (.i k (mkWrap (mkBin e .shl k (.c n)) k)) | false => .bad 48) _
            cases hz : ileb 0 n with
            | false => exact Snd.bad
            | true =>
              rw [ileb_eq] at hz
              have hn : 0 ≤ n := of_decide_eq_true hz
              exact Snd.ret r (x := .int k (k.wrap (e.den env * 2 ^ (min n.toNat k.bits)))) (bin_run (hg _) (by show (Op.shift .shl k (e.den env) l n).run P w = _; unfold Op.shift; rw [if_neg (by omega)]; rfl)) (VR.i' (by rw [mkWrap_den, mkBin_den, shl_den]; rfl))
          | .v _, _ => exact Snd.bad
          | .wrap _ _, _ => exact Snd.bad
          | .bin .., _ => exact Snd.bad
        | shr =>
          show SndV env n0 P M h w (shrI e2 k e) _
          match e2, hg with
          | .c n, hg =>
            show SndV env n0 P M h w (match ileb 0 n with | true => .ret (.i k (mkBin e .shr k (.c n))) | false => .bad 49) _
            cases hz : ileb 0 n with
            | false => exact Snd.bad
            | true =>
              rw [ileb_eq] at hz
              have hn : 0 ≤ n := of_decide_eq_true hz
              exact Snd.ret r (x := .int k ((e.den env).fdiv (2 ^ (min n.toNat k.bits)))) (bin_run (hg _) (by show (Op.shift .shr k (e.den env) l n).run P w = _; unfold Op.shift; rw [if_neg (by omega)]; rfl)) (VR.i' (by rw [mkBin_den, shr_den]; rfl))
          | .v _, _ => exact Snd.bad
          | .wrap _ _, _ => exact Snd.bad
          | .bin .., _ => exact Snd.bad
        | _ => exact other (by simp) (by simp)
      cases isC e2 with
      | true => exact old
      | false =>
        have le0 : ∀ (b : Bool), cx.dec (.le (.c (.ofNat 0)) e2) = some b → b = true → 0 ≤ e2.den env := by
          intro b hd hb
          subst hb
          have h2 : ileb 0 (e2.den env) = true := dec_ok hp hd
          rw [ileb_eq] at h2
          exact of_decide_eq_true h2
        have ne0 : ∀ (b : Bool), cx.dec (.eq e2 (.c (.ofNat 0))) = some b → b = false → e2.den env ≠ 0 := by
          intro b hd hb
          subst hb
          have h2 : ieqb (e2.den env) 0 = false := dec_ok hp hd
          rw [ieqb_eq] at h2
          simpa using h2
        cases op with
        | shl =>
          show SndV env n0 P M h w (shlY (cx.dec (.le (.c (.ofNat 0)) e2)) k e e2) _
          cases hd : cx.dec (.le (.c (.ofNat 0)) e2) with
          | none => exact Snd.bad
          | some b =>
            cases b with
            | false => exact Snd.bad
            | true =>
              have hn := le0 _ hd rfl
              exact Snd.ret r (x := .int k (k.wrap (e.den env * 2 ^ (min (e2.den env).toNat k.bits)))) (bin_run (hg _) (by show (Op.shift .shl k (e.den env) l (e2.den env)).run P w = _; unfold Op.shift; rw [if_neg (by omega)]; rfl)) (VR.i' (by rw [mkWrap_den, mkBin_den, shl_den]))
        | shr =>
          show SndV env n0 P M h w (shrY (cx.dec (.le (.c (.ofNat 0)) e2)) k e e2) _
          cases hd : cx.dec (.le (.c (.ofNat 0)) e2) with
          | none => exact Snd.bad
          | some b =>
            cases b with
            | false => exact Snd.bad
            | true =>
              have hn := le0 _ hd rfl
              exact Snd.ret r (x := .int k ((e.den env).fdiv (2 ^ (min (e2.den env).toNat k.bits)))) (bin_run (hg _) (by show (Op.shift .shr k (e.den env) l (e2.den env)).run P w = _; unfold Op.shift; rw [if_neg (by omega)]; rfl)) (VR.i' (by rw [mkBin_den, shr_den]))
        | quo =>
          show SndV env n0 P M h w (sameK (.bad 50) (divY (cx.dec (.eq e2 (.c (.ofNat 0)))) k e e2) (keq k l)) _
          cases hkl : keq k l with
          | false => exact Snd.bad
          | true =>
            have := (keq_eq k l).1 hkl
            subst this
            show SndV env n0 P M h w (divY (cx.dec (.eq e2 (.c (.ofNat 0)))) k e e2) _
            cases hd : cx.dec (.eq e2 (.c (.ofNat 0))) with
            | none => exact Snd.bad
            | some b =>
              cases b with
              | true => exact Snd.bad
              | false =>
                have hn := ne0 _ hd rfl
                exact Snd.ret r (x := .int k (k.wrap ((e.den env).tdiv (e2.den env)))) (bin_run (hg _) (by simp [binOp, Op.intDiv, hn])) (VR.i' (by rw [mkWrap_den, mkBin_den]; rfl))
        | rem =>
          show SndV env n0 P M h w (sameK (.bad 50) (remY (cx.dec (.eq e2 (.c (.ofNat 0)))) k e e2) (keq k l)) _
          cases hkl : keq k l with
          | false => exact Snd.bad
          | true =>
            have := (keq_eq k l).1 hkl
            subst this
            show SndV env n0 P M h w (remY (cx.dec (.eq e2 (.c (.ofNat 0)))) k e e2) _
            cases hd : cx.dec (.eq e2 (.c (.ofNat 0))) with
            | none => exact Snd.bad
            | some b =>
              cases b with
              | true => exact Snd.bad
              | false =>
                have hn := ne0 _ hd rfl
                exact Snd.ret r (x := .int k ((e.den env).tmod (e2.den env))) (bin_run (hg _) (by simp [binOp, Op.intDiv, hn])) (VR.i' (by rw [mkBin_den]; rfl))
        | _ => exact old
    | _ => exact Snd.bad
  | s ra sa h1 h2 =>
    cases hb with
    | s rb sb k1 k2 =>
      show SndV env n0 P M h w (binStr op ra (.s rb)) _
      have hg : ∀ op, (eqGuard op t x y (.string sa) (.string sb)).run P w = .ok () w := fun op => guard_run op t x y (fun _ e => by cases e) (fun e => by cases e)
      have hsame := sameStr_str h1 h2 k1 k2
      cases op with
      | add =>
        show SndV env n0 P M h w (match Nat.ble (Nat.add ra.len rb.len) 1073741824 with | true => .ret (.s (RL.app ra rb)) | false => .bad 58) _
        cases hl : Nat.ble (Nat.add ra.len rb.len) 1073741824 with
        | false => exact Snd.bad
        | true =>
          have hl : ra.len + rb.len ≤ 1073741824 := Nat.le_of_ble_eq_true hl
          rw [RL.len_eq, RL.len_eq, ← str_size h1, ← str_size k1] at hl
          refine Snd.ret r (x := .string (sa ++ sb)) (bin_run (hg _) ?_) (VR.s _ _ ?_ ?_)
          · simp only [binOp, Op.stringOp]
            rw [if_neg]
            · rfl
            · have : IntKind.i64.max = 9223372036854775807 := by decide
              omega
          · rw [bytesOf, RL.toList_app, List.map_append]
            show (sa ++ sb).data.toList = bytesOf ra ++ bytesOf rb
            rw [← h1, ← k1]
            simp [ByteArray.data_append]
          · intro n hn
            rw [RL.toList_app, List.mem_append] at hn
            exact hn.elim (h2 n) (k2 n)
      | eql => exact retB_snd (o := some (.c (sameStr ra rb))) r (b := sa.toList == sb.toList) (fun e' h => by cases h; exact hsame) fun _ => bin_run (hg _) (by simp [binOp, Op.stringOp])
      | neq => exact retNB_snd (o := some (.c (sameStr ra rb))) r (b := sa.toList == sb.toList) (fun e' h => by cases h; exact hsame) fun _ => bin_run (hg _) (by simp [binOp, Op.stringOp])
      | _ => exact Snd.bad
    | _ => cases op <;> exact Snd.bad
  | b e => exact other_snd hT r (.b e) hb op t x y (by simp) (by simp) (by simp) (by simp)
  | pn => exact other_snd hT r .pn hb op t x y (by simp) (by simp) (by simp) (by simp)
  | p b o pl hM => exact other_snd hT r (.p b o pl hM) hb op t x y (by simp) (by simp) (by simp) (by simp)
  | sn l c => exact other_snd hT r (.sn l c) hb op t x y (by simp) (by simp) (by simp) (by simp)
  | sl b o l c c' pl a h1 h2 h3 h4 h5 => exact other_snd hT r (.sl b o l c c' pl a h1 h2 h3 h4 h5) hb op t x y (by simp) (by simp) (by simp) (by simp)
  | mn => exact other_snd hT r .mn hb op t x y (by simp) (by simp) (by simp) (by simp)
  | m r' pl hM => exact other_snd hT r (.m r' pl hM) hb op t x y (by simp) (by simp) (by simp) (by simp)
  | fn f a c a' c' h1 h2 => exact other_snd hT r (.fn f a c a' c' h1 h2) hb op t x y (by simp) (by simp) (by simp) (by simp)
  | nf => exact other_snd hT r .nf hb op t x y (by simp) (by simp) (by simp) (by simp)
  | ni => exact other_snd hT r .ni hb op t x y (by simp) (by simp) (by simp) (by simp)
  | ifc t' x' v' h1 => exact other_snd hT r (.ifc t' x' v' h1) hb op t x y (by simp) (by simp) (by simp) (by simp)
  | agg l c h1 => exact other_snd hT r (.agg l c h1) hb op t x y (by simp) (by simp) (by simp) (by simp)
  | tup l c h1 => exact other_snd hT r (.tup l c h1) hb op t x y (by simp) (by simp) (by simp) (by simp)
theorem fieldEq_snd {k : TK} {a b : V} {a' b' : Value} (ha : VR env M a a') (hb : VR env M b b') {t : TypeId} (hk : KOk P t k) {e : BE} (he : fieldEq k a b = some e) (w : World) (d : Nat) :
    (Op.equalIn (d + 1) t a' b').run P w = .ok (e.den env) w := by
  cases k with
  | int kk =>
    cases ha with
    | i l x =>
      replace he : eqI b l x = some e := he
      cases hb with
      | i l2 y =>
        replace he : (match keq l l2 with | true => some (mkEq x y) | false => none) = some e := he
        cases hkl : keq l l2 with
        | false => rw [hkl] at he; cases he
        | true =>
          rw [hkl] at he
          have := (keq_eq l l2).1 hkl
          subst this
          cases he
          rw [run_equalIn_int w d t l kk _ _ hk, mkEq_den]
      | _ => cases he
    | _ => cases he
  | bool =>
    replace he : eqBB a b = some e := he
    cases ha with
    | b ba =>
      cases hb with
      | b bb => rw [run_equalIn_bool' w d t _ _ hk, eqB2_den (a := ba) (b := bb) he]
      | _ => cases he
    | _ => cases he
  | string =>
    cases ha with
    | s ra sa h1 h2 =>
      replace he : eqS b ra = some e := he
      cases hb with
      | s rb sb k1 k2 =>
        cases he
        rw [run_equalIn_string w d t _ _ hk]
        show Result.ok _ w = .ok (sameStr ra rb) w
        rw [sameStr_str h1 h2 k1 k2]
      | _ => cases he
    | _ => cases he
  | _ => cases he
theorem andB2_den {a b e : BE} (h : andB2 b a = some e) : e.den env = (a.den env && b.den env) := by
  cases b with
  | c x => cases x with
    | true => cases h; simp [BE.den]
    | false => cases h; simp [BE.den]
  | _ => cases h
theorem andBE_den {a b e : BE} (h : andBE a b = some e) : e.den env = (a.den env && b.den env) := by
  cases a with
  | c x => cases x with
    | true => cases h; simp [BE.den]
    | false => cases h; simp [BE.den]
  | _ => exact andB2_den h
theorem eqFs_snd (hT : TabOk P cx) {xs ys : List V} {cs ds : Array Value} (hx : VRs env M xs cs.toList) (hy : VRs env M ys ds.toList) (w : World) (d : Nat) : ∀ (fs : List Field) (e : BE),
    eqFs cx (fs.map fun f => (f.type, f.offset, f.name == "_")) xs ys = some e → (Op.eqFields (d + 1) cs ds fs).run P w = .ok (e.den env) w
  | [], e, he => by cases he; rfl
  | f :: fs, e, he => by
    replace he : (match (f.name == "_") with | true => none | false => andO (fieldEqO (tk cx f.type) (nth xs f.offset) (nth ys f.offset)) (eqFs cx (fs.map fun f => (f.type, f.offset, f.name == "_")) xs ys)) = some e := he
    cases hn : (f.name == "_") with
    | true => rw [hn] at he; cases he
    | false =>
      rw [hn] at he
      have hne : f.name ≠ "_" := by simpa using hn
      replace he : andO (fieldEqO (tk cx f.type) (nth xs f.offset) (nth ys f.offset)) (eqFs cx (fs.map fun f => (f.type, f.offset, f.name == "_")) xs ys) = some e := he
      cases hf : fieldEqO (tk cx f.type) (nth xs f.offset) (nth ys f.offset) with
      | none => rw [hf] at he; cases he
      | some e1 =>
        cases hr : eqFs cx (fs.map fun f => (f.type, f.offset, f.name == "_")) xs ys with
        | none => rw [hf, hr] at he; cases he
        | some e2 =>
          rw [hf, hr] at he
          have hand := andBE_den (env := env) (a := e1) (b := e2) he
          have ih := eqFs_snd hT hx hy w d fs e2 hr
          cases hvx : nth xs f.offset with
          | none => rw [hvx] at hf; cases hf
          | some vx =>
            cases hvy : nth ys f.offset with
            | none => rw [hvx, hvy] at hf; cases hf
            | some vy =>
              rw [hvx, hvy] at hf
              replace hf : fieldEq (tk cx f.type) vx vy = some e1 := hf
              rw [nth_eq] at hvx hvy
              obtain ⟨x, x1, x2⟩ := hx.get _ _ hvx
              obtain ⟨y, y1, y2⟩ := hy.get _ _ hvy
              have x1' : cs[f.offset]? = some x := by simpa using x1
              have y1' : ds[f.offset]? = some y := by simpa using y1
              have hk := tk_ok hT f.type
              have nag : (isAgg f.type).run P w = .ok false w := by
                unfold isAgg
                rw [Sem.run_bind]
                cases hkk : tk cx f.type with
                | int k => rw [hkk] at hk; rw [run_und hk]; rfl
                | bool => rw [hkk] at hk; rw [run_und hk]; rfl
                | string => rw [hkk] at hk; rw [run_und hk]; rfl
                | _ => rw [hkk] at hf; cases hf
              have px : (part f.type cs f.offset).run P w = .ok x w := by
                simp only [part, Sem.run_bind, nag, Result.andThen_ok, Bool.false_eq_true, if_false, x1', Sem.run_pure]
              have py : (part f.type ds f.offset).run P w = .ok y w := by
                simp only [part, Sem.run_bind, nag, Result.andThen_ok, Bool.false_eq_true, if_false, y1', Sem.run_pure]
              have hq := fieldEq_snd x2 y2 hk hf w d
              simp only [Op.eqFields, ne_eq, hne, not_false_eq_true, if_true, Sem.run_bind, px, py, hq, Result.andThen_ok]
              rw [hand]
              cases he1 : e1.den env with
              | true => simp only [Bool.not_true, Bool.false_eq_true, if_false, Bool.true_and]; exact ih
              | false => simp only [Bool.not_false, if_true, Bool.false_and, Sem.run_pure]
theorem binG_snd (hT : TabOk P cx) (hp : PcOk env cx.pc) (r : Rel env n0 M h w) {a b : V} {a' b' : Value} (ha : VR env M a a') (hb : VR env M b b') (op : BinOp) (t : TypeId) (x y : Operand) :
    SndV env n0 P M h w (vbinG a op b t cx (cstO x || cstO y)) (do eqGuard op t x y a' b'; binOp op t a' b') := by
  cases ha with
  | agg xs cs hx =>
    show SndV env n0 P M h w (binOther op (eqStO (tiEq (cx.ty.get t)) (tk cx t) cx xs b)) _
    cases he : eqStO (tiEq (cx.ty.get t)) (tk cx t) cx xs b with
    | none => cases op <;> exact Snd.bad
    | some e =>
      have main : ∃ ds, b' = .agg ds ∧ (∀ op, (eqGuard op t x y (.agg cs) b').run P w = .ok () w) ∧ (Op.equalIn 10000 t (.agg cs) b').run P w = .ok (e.den env) w := by
        cases hti : cx.ty.get t with
        | none => rw [hti] at he; cases he
        | some ti =>
          rw [hti] at he
          replace he : (match ti.eq with | true => eqSt (tk cx t) cx xs b | false => none) = some e := he
          cases hq : ti.eq with
          | false => rw [hq] at he; cases he
          | true =>
            rw [hq] at he
            replace he : eqSt (tk cx t) cx xs b = some e := he
            obtain ⟨g1, g2⟩ := (hT t ti hti).eq hq
            have hk := tk_ok hT t
            cases hkk : tk cx t with
            | struct fs =>
              rw [hkk] at hk he
              obtain ⟨fields, hu, hfs⟩ := hk
              cases hb with
              | agg ys ds hy =>
                replace he : eqFs cx fs xs ys = some e := he
                subst hfs
                have hfo : P.fieldsOf t = fields := by unfold Program.fieldsOf; rw [hu]
                refine ⟨ds, rfl, fun op => run_eqGuard_agg w op t x y cs ds g2, ?_⟩
                rw [run_equalIn_struct w 9999 t cs ds (by rw [hfo]; exact hu) g1, hfo]
                exact eqFs_snd hT hx hy w 9998 fields.toList e he
              | _ => cases he
            | _ => rw [hkk] at he; cases he
      obtain ⟨ds, rfl, hg, hq⟩ := main
      cases op with
      | eql => exact retB_snd (o := some e) r (b := e.den env) (fun e' h => by cases h; rfl) fun _ => bin_run (hg _) (by rw [run_eql_struct, hq]; rfl)
      | neq => exact retNB_snd (o := some e) r (b := e.den env) (fun e' h => by cases h; rfl) fun _ => bin_run (hg _) (by rw [run_neq_struct, hq]; rfl)
      | _ => exact Snd.bad
  | i k e => exact bin_snd hT hp r (.i k e) hb op t x y
  | s ra sa h1 h2 => exact bin_snd hT hp r (.s ra sa h1 h2) hb op t x y
  | b e => exact bin_snd hT hp r (.b e) hb op t x y
  | pn => exact bin_snd hT hp r .pn hb op t x y
  | p b o pl hM => exact bin_snd hT hp r (.p b o pl hM) hb op t x y
  | sn l c => exact bin_snd hT hp r (.sn l c) hb op t x y
  | sl b o l c c' pl a h1 h2 h3 h4 h5 => exact bin_snd hT hp r (.sl b o l c c' pl a h1 h2 h3 h4 h5) hb op t x y
  | mn => exact bin_snd hT hp r .mn hb op t x y
  | m r' pl hM => exact bin_snd hT hp r (.m r' pl hM) hb op t x y
  | fn f a c a' c' h1 h2 => exact bin_snd hT hp r (.fn f a c a' c' h1 h2) hb op t x y
  | nf => exact bin_snd hT hp r .nf hb op t x y
  | ni => exact bin_snd hT hp r .ni hb op t x y
  | ifc t' x' v' h1 => exact bin_snd hT hp r (.ifc t' x' v' h1) hb op t x y
  | tup l c h1 => exact bin_snd hT hp r (.tup l c h1) hb op t x y
theorem un_snd (r : Rel env n0 M h w) {a : V} {a' : Value} (ha : VR env M a a') (op : UnOp) : SndV env n0 P M h w (vun a op) (Op.unary op a') := by
  cases ha with
  | i k e =>
    cases op with
    | neg => exact Snd.ret r (x := .int k (k.wrap (0 - e.den env))) rfl (VR.i' (by rw [mkWrap_den, mkBin_den]; show k.wrap (isub _ _) = _; rw [isub_eq]; rfl))
    | xor =>
      refine Snd.ret r (x := .int k _) (s := Op.unary .xor (.int k (e.den env))) rfl (VR.i' ?_)
      rw [mkBin_den]
      show xorF k _ _ = _
      rw [xorF_eq]
      cases k <;> rfl
    | _ => exact Snd.bad
  | b e =>
    cases op with
    | not => exact Snd.ret r (x := .bool (!(e.den env))) rfl (VR.b' (mkNot_den env e))
    | _ => exact Snd.bad
  | _ => exact Snd.bad
end ops
end Go.Vm
